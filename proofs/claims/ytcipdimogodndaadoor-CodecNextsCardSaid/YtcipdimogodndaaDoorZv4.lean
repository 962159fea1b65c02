/- The formats of chapter 5, what a pattern's number is, said in numbers. No program is in sight here.
   A pattern's bits and its number: what the reference reads, and what it writes. No program is in sight here.
   limb.small: division by one digit.
   codec: forms, Size, Grid, open, and how bytes are ordered.
   limb.Of.
   Quotients and roots with a sticky bit, cut to so many bits: they don't hang on how far one reckoned. Plain arithmetic. No program is in sight here.
   Boxes of structs: what is stored into one.
   dyad.Whole, Opposite.
   ball: around.
   limb.less, limb.more: over a window of a row.
   bits.LeadingZeros32, limb.Div.
   limb.Div: long division.
   ball: rows of numbers; how far what is cut, and a quotient, goes.
   ball: Over.
   ball: check.
   ball: Done; Plus, Times, Join, Opposite.
   What the series call, said of whole numbers over one power of 2.
   What codec's functions call, in the form that sx.py's rows want.
   The references' product.
   The references' division by one digit.
   codec: split: the parts of a pattern.
   codec: join: a pattern out of its parts.
   How a value becomes a pattern, said in numbers. No program is in sight here.
   What a call leaves: a dyad, and whether.
   grid: within, width, floor, Check.
   grid: scaled.
   A map from int that a call makes, known whole: 'insert' of a new key, and a look-up. No program is in sight here.
   grid: the map of ways.
   grid: the ways to round. -/
import Derived.Deep.RegionLaw
import Derived.Deep.LoopGhost
import Derived.Maps.AppendAt
import Derived.Maps.Own
import Derived.Outline
import Derived.Test.YtcipdimogodndaaDoorZv1
import Derived.Test.YtcipdimogodndaaDoorZv2
import Derived.Test.YtcipdimogodndaaDoorZv3
namespace Go.Slip

structure Fm where
  size : Nat
  E : Nat
  F : Nat
  g : Gd
  fam : Nat
  ext : Bool

def fmt (n : Int) : Fm :=
  if n = 1 then ⟨4, 8, 23, ⟨2, 24, -149, 104, true⟩, 1, false⟩
  else if n = 2 then ⟨8, 11, 52, ⟨2, 53, -1074, 971, true⟩, 1, false⟩
  else if n = 3 then ⟨10, 15, 64, ⟨2, 64, -16445, 16320, true⟩, 1, true⟩
  else if n = 4 then ⟨4, 7, 24, ⟨16, 6, -70, 57, false⟩, 2, false⟩
  else if n = 5 then ⟨8, 7, 56, ⟨16, 14, -78, 49, false⟩, 2, false⟩
  else if n = 6 then ⟨4, 8, 23, ⟨2, 24, -151, 103, false⟩, 3, false⟩
  else if n = 7 then ⟨8, 8, 55, ⟨2, 56, -183, 71, false⟩, 3, false⟩
  else if n = 8 then ⟨8, 11, 52, ⟨2, 53, -1076, 970, false⟩, 3, false⟩
  else ⟨0, 0, 0, ⟨0, 0, 0, 0, false⟩, 0, false⟩

def IsFm (n : Int) : Prop := 1 ≤ n ∧ n ≤ 8
instance (n : Int) : Decidable (IsFm n) := by unfold IsFm; exact inferInstance

def Fm.hid (f : Fm) : Bool := !(f.fam == 2) && !f.ext
def Fm.inf (f : Fm) : Bool := f.fam == 1
def Fm.res (f : Fm) : Bool := f.fam == 3
def Fm.ord (f : Fm) : Nat := if f.ext then 2 else if f.fam = 3 then 1 else 0

structure GoodF (f : Fm) : Prop where
  bits : 1 + f.E + f.F = 8 * f.size
  sz : f.size = 4 ∨ f.size = 8 ∨ f.size = 10
  e1 : 7 ≤ f.E
  e2 : f.E ≤ 15
  f1 : 23 ≤ f.F
  f2 : f.F ≤ 64
  g : errG f.g = 0
  fam : f.fam = 1 ∨ f.fam = 2 ∨ f.fam = 3
  ext : f.ext = true → f.fam = 1 ∧ f.F = 64 ∧ f.g.digs = 64
  w : wid f.g = if f.fam = 2 then 4 else 1
  rad : f.g.rad = if f.fam = 2 then 16 else 2
  grad : f.g.grad = decide (f.fam = 1)
  lo : -16445 ≤ f.g.lo ∧ f.g.lo ≤ -70
  hi : f.g.hi ≤ 16320
  hi1 : f.fam = 1 → f.g.hi = f.g.lo + (2 ^ f.E : Nat) - 3
  hi2 : f.fam = 2 → f.g.hi = f.g.lo + (2 ^ f.E : Nat) - 1
  hi3 : f.fam = 3 → f.g.hi = f.g.lo + (2 ^ f.E : Nat) - 2
  d2 : f.fam = 2 → 4 * f.g.digs = f.F
  d1 : f.fam ≠ 2 → f.ext = false → f.g.digs = f.F + 1

theorem fm_cases {n : Int} (h : IsFm n) : n = 1 ∨ n = 2 ∨ n = 3 ∨ n = 4 ∨ n = 5 ∨ n = 6 ∨ n = 7 ∨ n = 8 := by unfold IsFm at h; omega
theorem good_fm {n : Int} (h : IsFm n) : GoodF (fmt n) := by
  rcases fm_cases h with rfl | rfl | rfl | rfl | rfl | rfl | rfl | rfl <;> exact ⟨by decide, by decide, by decide, by decide, by decide, by decide, by decide, by decide, by decide, by decide, by decide, by decide, by decide, by decide, by decide, by decide, by decide, by decide, by decide⟩

def plc (o n i : Nat) : Nat := if o = 2 then n - 1 - i else if o = 1 then i + 1 - 2 * (i % 2) else i
def ordL (o : Nat) (xs : List Nat) : List Nat := (List.range xs.length).map fun i => dg xs (plc o xs.length i)
theorem ordL_len (o : Nat) (xs : List Nat) : (ordL o xs).length = xs.length := by simp [ordL]
theorem dg_ordL {o : Nat} {xs : List Nat} {i : Nat} (h : i < xs.length) : dg (ordL o xs) i = dg xs (plc o xs.length i) := by
  unfold ordL
  rw [dg, List.getElem?_map, List.getElem?_range h]
  rfl
theorem ext_dg {xs ys : List Nat} (hl : xs.length = ys.length) (h : ∀ i, i < xs.length → dg xs i = dg ys i) : xs = ys := by
  apply List.ext_getElem hl
  intro i h1 h2
  have := h i h1
  unfold dg at this
  rw [List.getElem?_eq_getElem h1, List.getElem?_eq_getElem h2] at this
  simpa using this
theorem plc_lt {o n i : Nat} (ho : o = 1 → n % 2 = 0) (h : i < n) : plc o n i < n := by
  unfold plc
  split
  · omega
  · split
    · rename_i k
      have := ho k
      omega
    · exact h
theorem plc_plc {o n i : Nat} (h : i < n) : plc o n (plc o n i) = i := by
  unfold plc
  split
  · omega
  · split
    · omega
    · rfl
theorem ordL_bytes {o : Nat} {xs : List Nat} (ho : o = 1 → xs.length % 2 = 0) (h : ∀ x ∈ xs, x < 256) : ∀ x ∈ ordL o xs, x < 256 := by
  intro x hx
  unfold ordL at hx
  rw [List.mem_map] at hx
  obtain ⟨i, hi, rfl⟩ := hx
  rw [List.mem_range] at hi
  have k := plc_lt ho hi
  unfold dg
  rw [List.getElem?_eq_getElem k]
  exact h _ (List.getElem_mem k)
theorem ordL_zero (xs : List Nat) : ordL 0 xs = xs := ext_dg (ordL_len _ _) fun i hi => by rw [ordL_len] at hi; rw [dg_ordL hi]; rfl
theorem ordL_two (xs : List Nat) : ordL 2 xs = xs.reverse := ext_dg (by rw [ordL_len, List.length_reverse]) fun i hi => by rw [ordL_len] at hi; rw [dg_ordL hi, dg_reverse hi]; rfl

/-! ### What a pattern's number is -/
def Fm.neg (f : Fm) (N : Nat) : Bool := N / 2 ^ f.F / 2 ^ f.E == 1
def Fm.exp (f : Fm) (N : Nat) : Nat := N / 2 ^ f.F % 2 ^ f.E
def Fm.frac (f : Fm) (N : Nat) : Nat := N % 2 ^ f.F

structure Dc where
  cls : Nat
  m : Nat
  p : Int
def Fm.dec (f : Fm) (neg : Bool) (e frac : Nat) : Dc :=
  if f.fam = 2 then ⟨2, frac, f.g.lo + e⟩
  else if f.fam = 1 ∧ e = 2 ^ f.E - 1 then (if (f.ext = false ∧ frac = 0) ∨ (f.ext = true ∧ frac = 2 ^ 63) then ⟨3, 0, 0⟩ else ⟨4, 0, 0⟩)
  else if f.fam = 3 ∧ e = 0 then (if neg then ⟨5, 0, 0⟩ else ⟨1, 0, 0⟩)
  else if e = 0 then ⟨2, frac, f.g.lo⟩
  else if f.ext = false then ⟨2, frac + 2 ^ f.F, f.g.lo + e - 1⟩
  else if frac < 2 ^ 63 then ⟨4, 0, 0⟩
  else ⟨2, frac, f.g.lo + e - 1⟩
def Dc.c (d : Dc) : Nat := if d.cls = 2 ∧ d.m = 0 then 1 else d.cls

theorem dec_cls (f : Fm) (neg : Bool) (e frac : Nat) : (f.dec neg e frac).cls = 1 ∨ (f.dec neg e frac).cls = 2 ∨ (f.dec neg e frac).cls = 3 ∨ (f.dec neg e frac).cls = 4 ∨ (f.dec neg e frac).cls = 5 := by
  unfold Fm.dec
  repeat' split
  all_goals simp
theorem dec_m {f : Fm} (neg : Bool) {e frac : Nat} (h : frac < 2 ^ f.F) : (f.dec neg e frac).m < 2 ^ (f.F + 1) := by
  have h1 : 2 ^ (f.F + 1) = 2 * 2 ^ f.F := by rw [Nat.pow_succ]; omega
  have h2 : 0 < 2 ^ f.F := Nat.pow_pos (by omega)
  unfold Fm.dec
  repeat' split
  all_goals simp only
  all_goals omega
theorem dec_p {f : Fm} (G : GoodF f) (neg : Bool) {e frac : Nat} (h : e < 2 ^ f.E) : -16445 ≤ (f.dec neg e frac).p ∧ (f.dec neg e frac).p ≤ 16323 := by
  have h1 := G.lo
  have h2 := G.hi
  have h3 := G.hi1
  have h4 := G.hi2
  have h5 := G.hi3
  have h6 := G.fam
  unfold Fm.dec
  generalize 2 ^ f.E = T at *
  repeat' split
  all_goals simp only
  all_goals omega

structure Vl where
  cls : Nat
  neg : Bool
  d : Nat
  pow : Int
structure Vr where
  cls : Nat
  neg : Bool
  x : Dv
def Fm.vl (f : Fm) (neg : Bool) (d : Dc) : Vl := ⟨d.c, if d.c ≤ 3 then neg else false, if d.c = 2 then d.m / 2 ^ (tz d.m / wid f.g * wid f.g) else 0, if d.c = 2 then d.p + (tz d.m / wid f.g : Nat) else 0⟩
def Fm.vr (f : Fm) (neg : Bool) (d : Dc) : Vr := ⟨d.c, if d.c ≤ 3 then neg else false, if d.c = 2 then bare ⟨neg, d.m, wid f.g * d.p⟩ else ⟨false, 0, 0⟩⟩
def Fm.decN (f : Fm) (N : Nat) : Dc := f.dec (f.neg N) (f.exp N) (f.frac N)
def Fm.valN (f : Fm) (N : Nat) : Vl := f.vl (f.neg N) (f.decN N)
def Fm.refN (f : Fm) (N : Nat) : Vr := f.vr (f.neg N) (f.decN N)

end Go.Slip

namespace Go.Slip

theorem bits_neg {f : Fm} {x : Bool} {r : List Bool} (h : r.length = f.E + f.F) : f.neg (vb (x :: r)) = x := by
  unfold Fm.neg
  rw [Nat.div_div_eq_div_mul, ← Nat.pow_add, Nat.add_comm f.F, ← h]
  exact vb_top x r
theorem bits_top {f : Fm} {x : Bool} {r : List Bool} (h : r.length = f.E + f.F) : vb (x :: r) / 2 ^ f.F = vb (x :: r.take f.E) := by
  have := vb_take (x :: r) (1 + f.E)
  rw [List.length_cons, h, show f.E + f.F + 1 - (1 + f.E) = f.F by omega, Nat.add_comm 1, List.take_succ_cons] at this
  exact this.symm
theorem bits_exp {f : Fm} {x : Bool} {r : List Bool} (h : r.length = f.E + f.F) : f.exp (vb (x :: r)) = vb (r.take f.E) := by
  unfold Fm.exp
  rw [bits_top h]
  have h2 : (r.take f.E).length = f.E := by rw [List.length_take]; omega
  have := vb_rest x (r.take f.E)
  rw [h2] at this
  exact this
theorem bits_frac {f : Fm} {x : Bool} {r : List Bool} (h : r.length = f.E + f.F) : f.frac (vb (x :: r)) = vb (r.drop f.E) := by
  unfold Fm.frac
  have := vb_drop (x :: r) (f.E + 1)
  rw [List.length_cons, h, show f.E + f.F + 1 - (f.E + 1) = f.F by omega, List.drop_succ_cons] at this
  exact this.symm

theorem vb_take_succ (r : List Bool) (i : Nat) (h : i < r.length) : vb (r.take (i + 1)) = 2 * vb (r.take i) + r[i].toNat := by
  rw [← List.take_append_getElem h, vb_snoc]
theorem all_take_succ (r : List Bool) (i : Nat) (h : i < r.length) : (r.take (i + 1)).all id = ((r.take i).all id && r[i]) := by
  rw [← List.take_append_getElem h, List.all_append]
  simp

def bitsN : Nat → Nat → List Bool
  | _, 0 => []
  | a, n + 1 => bitsN (a / 2) n ++ [a % 2 == 1]
theorem bitsN_len : ∀ (n a : Nat), (bitsN a n).length = n
  | 0, _ => rfl
  | n + 1, a => by rw [bitsN, List.length_append, bitsN_len n]; rfl
theorem vb_bitsN : ∀ (n a : Nat), vb (bitsN a n) = a % 2 ^ n
  | 0, a => by simp [bitsN, vb, Nat.mod_one]
  | n + 1, a => by
    rw [bitsN, vb_snoc, vb_bitsN n]
    have h1 : a % 2 ^ (n + 1) = a % 2 + 2 * (a / 2 % 2 ^ n) := by
      rw [Nat.pow_succ, Nat.mul_comm (2 ^ n) 2, Nat.mod_mul]
    have h2 : (a % 2 == 1).toNat = a % 2 := by
      rcases Nat.mod_two_eq_zero_or_one a with h | h <;> rw [h] <;> rfl
    omega

def Fm.pat (f : Fm) (neg : Bool) (e frac : Nat) : Nat := (neg.toNat * 2 ^ f.E + e) * 2 ^ f.F + frac
def bytesN : Nat → Nat → List Nat
  | _, 0 => []
  | a, n + 1 => bytesN (a / 256) n ++ [a % 256]
theorem bytesN_len : ∀ (n a : Nat), (bytesN a n).length = n
  | 0, _ => rfl
  | n + 1, a => by rw [bytesN, List.length_append, bytesN_len n]; rfl
theorem dg_snoc_lt (l : List Nat) (x i : Nat) (h : i < l.length) : dg (l ++ [x]) i = dg l i := by
  unfold dg
  rw [List.getElem?_append_left h]
theorem dg_bytesN : ∀ (n a i : Nat), i < n → dg (bytesN a n) i = a / 2 ^ (8 * (n - 1 - i)) % 256
  | 0, _, _, h => by omega
  | n + 1, a, i, h => by
    rw [bytesN]
    by_cases h2 : i < n
    · rw [dg_snoc_lt _ _ _ (by rw [bytesN_len]; exact h2), dg_bytesN n _ i h2, Nat.div_div_eq_div_mul]
      congr 2
      rw [show (256 : Nat) = 2 ^ 8 from rfl, ← Nat.pow_add]
      congr 1
      omega
    · obtain rfl : i = n := by omega
      unfold dg
      rw [List.getElem?_append_right (by rw [bytesN_len]; exact Nat.le_refl _), bytesN_len]
      simp

def Fm.str (f : Fm) (neg : Bool) (e frac : Nat) : List Nat := ordL f.ord (bytesN (f.pat neg e frac) f.size)
def Fm.bits (f : Fm) (neg : Bool) (e frac : Nat) : List Bool := neg :: (bitsN e f.E ++ bitsN frac f.F)
theorem bits_len (f : Fm) (neg : Bool) (e frac : Nat) : (f.bits neg e frac).length = 1 + f.E + f.F := by
  unfold Fm.bits
  rw [List.length_cons, List.length_append, bitsN_len, bitsN_len]
  omega
theorem vb_fbits {f : Fm} {neg : Bool} {e frac : Nat} (he : e < 2 ^ f.E) (hf : frac < 2 ^ f.F) : vb (f.bits neg e frac) = f.pat neg e frac := by
  unfold Fm.bits Fm.pat
  rw [vb_cons, vb_append, vb_bitsN, vb_bitsN, bitsN_len, List.length_append, bitsN_len, bitsN_len, Nat.mod_eq_of_lt he, Nat.mod_eq_of_lt hf, Nat.pow_add, Nat.add_mul, Nat.mul_assoc]
  omega
theorem vb_byte_at (b : List Bool) (n i : Nat) (hb : b.length = 8 * n) (hi : i < n) : vb ((b.drop (8 * i)).take 8) = vb b / 2 ^ (8 * (n - 1 - i)) % 256 := by
  rw [vb_take, vb_drop, List.length_drop, hb]
  have e1 : 8 * n - 8 * i - 8 = 8 * (n - 1 - i) := by omega
  have e2 : 8 * n - 8 * i = 8 * (n - 1 - i) + 8 := by omega
  rw [e1, e2, Nat.pow_add, Nat.mod_mul_right_div_self]
theorem str_of {f : Fm} (G : GoodF f) {neg : Bool} {e frac : Nat} {L : List Nat} (hl : L.length = f.size) (h : ∀ i, i < f.size → dg L (plc f.ord f.size i) = f.pat neg e frac / 2 ^ (8 * (f.size - 1 - i)) % 256) : L = f.str neg e frac := by
  have ho : f.ord = 1 → f.size % 2 = 0 := fun _ => by have := G.sz; omega
  unfold Fm.str
  apply ext_dg (by rw [ordL_len, bytesN_len, hl])
  intro i hi
  rw [hl] at hi
  have h2 := h (plc f.ord f.size i) (plc_lt ho hi)
  rw [plc_plc hi] at h2
  rw [h2, dg_ordL (by rw [bytesN_len]; exact hi), bytesN_len, dg_bytesN _ _ _ (plc_lt ho hi)]

theorem pat_lt {f : Fm} (G : GoodF f) {neg : Bool} {e frac : Nat} (he : e < 2 ^ f.E) (hf : frac < 2 ^ f.F) : f.pat neg e frac < 2 ^ (8 * f.size) := by
  rw [← G.bits, ← vb_fbits he hf, ← bits_len f neg e frac]
  exact vb_lt _
end Go.Slip

namespace Go.Proofs.YtcipdimogodndaaDoor
open Go.RowKit Go.Slip

set_option maxHeartbeats 1000000 in
set_option maxRecDepth 100000 in
theorem small_any (p : Option Addr) (n c : Nat) (a d : Nat) (w : World) (hp : Rd w .u32 p (dig B32 a)) (hn : n = (dig B32 a).length) (hl : (dig B32 a).length ≤ 1000000000) (hd0 : 0 < d) (hd1 : d < 4294967296) :
    Calls Tryd.prog 139 #[.slice p n c, .int .u32 d] w fun e w' => ∃ p' c', e = .returned (.tuple #[.slice p' (dig B32 (a / d)).length c', .int .u32 (a % d : Nat)]) ∧
      Own w' w.heap.size .u32 91 p' c' (dig B32 (a / d)) ∧ Below w.heap.size w w' := by
  subst hn
  have HA := Lib.hid (val_dig B32_two a)
  have HXL := Lib.hid (dig_lt B32_two a)
  generalize dig B32 a = xs at hp hl HA HXL ⊢
  have hsx := hp.solid
  go_enter Tryd.func139, Tryd.ntmps139
  go_wp2_with (refine wpl_make rfl _ _ _ rfl tyNat .i64 .i64 xs.length _ _ rfl rfl ?_ ?_ ?_ ?_; omega; omega; omega; intro p1 c1 w1 ho1 hb1 hz1)
  go_loopw [7, 8] (fun rv iv wr => ∃ (k r : Nat) (L : List Nat), iv = .int .i64 ((k : Int) - 1) ∧ rv = .int .u64 r ∧ k ≤ xs.length ∧ r < d ∧ Hid (L.length = xs.length) ∧ Own wr w.heap.size .u32 91 p1 c1 L ∧ Below w.heap.size w wr ∧ Hid (SmallRel B32 L xs d k r))
    (fun _ iv _ => (intOf iv + 1).toNat)
  case atStart => exact ⟨xs.length, 0, _, rfl, rfl, Nat.le_refl _, hd0, List.length_replicate, ho1, hb1, (show SmallRel B32 _ xs d xs.length 0 from ⟨fun x hx => by rw [(List.mem_replicate.1 hx).2]; exact B32_pos, hd0, by simp⟩)⟩
  case round =>
    obtain ⟨k, r, L, rfl, rfl, hk, hrd, hL, hoL, hbL, HR⟩ := hrel
    have hpL := hp.past hbL
    have hsL := hoL.solid
    rw [hL.out] at hsL
    by_cases h0 : 0 < k
    · obtain ⟨k, rfl⟩ : ∃ j, k = j + 1 := ⟨k - 1, by omega⟩
      have hc1 := hpL.cells k (by omega)
      have hxd := getD_lt (B := 4294967296) (by omega) xs HXL.out k
      have hor := or32 r (dg xs k) (by omega) hxd
      obtain ⟨HS, HQ⟩ := HR.out.step (by omega) (by rw [hL.out]; omega) (by unfold B32; exact hxd)
      have HS := Lib.hid HS
      have ej : ((k + 1 : Nat) : Int) - 1 = k := by omega
      rw [ej]
      unfold B32 at HQ
      obtain ⟨t, ht⟩ : ∃ t, t = r * 4294967296 + dg xs k := ⟨_, rfl⟩
      have et : (r : Int) * 4294967296 + (dg xs k : Nat) = (t : Nat) := by omega
      have htb : t < 18446744073709551616 := by omega
      rw [et] at hor
      rw [← ht] at HQ
      have HT := Lib.hid ht
      have hq0 : (0 : Int) ≤ (t : Int) / (d : Int) := Int.ediv_nonneg (by omega) (by omega)
      have hq1 : (t : Int) / (d : Int) < 4294967296 := by have : ((t / d : Nat) : Int) = (t : Int) / (d : Int) := rfl; omega
      have hd2 : (1 : Int) ≤ (d : Int) := by omega
      have k0 : (0 : Int) ≤ (k : Int) := by omega
      have k1 : (k : Int) < (xs.length : Int) := by omega
      clear ht et hc1
      have hc1 := hpL.cells k (by omega)
      go_wp2_with fail
      clear hc1 hor ej
      have e1 : IntKind.u64.wrap (d : Int) = (d : Int) := IntWalk.u64_in _ (by omega)
      have e2 : ¬ d = 0 := by omega
      have e3 : IntKind.u64.wrap ((t : Int) / (d : Int)) = (t : Int) / (d : Int) := IntWalk.u64_in _ (by omega)
      have e4 : IntKind.u32.wrap ((t : Int) / (d : Int)) = (t : Int) / (d : Int) := IntWalk.u32_in _ (by omega)
      have e5 : (t : Int).tmod (d : Int) = (t : Int) % (d : Int) := Int.tmod_eq_emod_of_nonneg (by omega)
      have hcL := hoL.rd.cells k (by rw [hL.out]; omega)
      have hfL := frozen_own hoL k (by rw [hL.out]; omega)
      go_region
      obtain ⟨ho3, hg3, hb3⟩ := stored_own hoL k (by rw [hL.out]; omega) (t / d)
      clear e1 e2 e3 e4 e5 hcL hfL
      have hb3 := hbL.trans (below_of_grown hg3 hbL.size (fun j hj => by cases hj; exact hb3))
      have ho3 := ho3.drew
      have hb3 := hb3.drew
      have eq : ((t / d : Nat) : Int) = (t : Int) / (d : Int) := rfl
      rw [eq] at ho3 hb3 hg3
      generalize (wr.setCell (at_ p1 k) (.int .u32 ((t : Int) / (d : Int)))).drew = w3 at ho3 hb3 ⊢
      clear eq hg3
      go_wp2
      go_roundw
      case rel =>
        have e6 : r * B32 + dg xs k = t := by rw [HT.out]; rfl
        rw [e6] at HS
        exact ⟨k, t % d, _, rfl, rfl, by omega, Nat.mod_lt _ hd0, (by show (List.set _ _ _).length = _; rw [List.length_set]; exact hL.out), ho3, hb3, HS⟩
      case measure => first | (simp [intOf]; done) | (simp [intOf]; omega)
    · obtain rfl : k = 0 := by omega
      obtain ⟨hv, hm⟩ := HR.out.done HA.out
      have HM := Lib.hid hm
      have HV := Lib.hid hv
      clear hv hm
      go_wp2_with (go_at_call 125; refine (norm_any _ _ _ L _ hoL.rd hL.out.symm hoL.le_cap HR.out.1 (by rw [hL.out]; omega)).mono ?_; rintro e w3 ⟨rfl, rfl⟩)
      go_ret2
      have ht := take_dig_len B32_two L HR.out.1
      have ho2 := hoL.take (dig B32 (val B32 L)).length
      rw [ht, HV.out] at ho2
      refine ⟨p1, c1, ?_, ho2, hbL⟩
      rw [HV.out, ← HM.out]
      rfl

end Go.Proofs.YtcipdimogodndaaDoor

namespace Go.Slip
def WRel (L xs : List Nat) (i : Nat) : Prop := L.length = xs.length ∧ i % 2 = 0 ∧ i ≤ xs.length ∧ ∀ t, t < xs.length → dg L t = if t < i then dg xs (plc 1 xs.length t) else dg xs t
theorem WRel.start (xs : List Nat) : WRel xs xs 0 := ⟨rfl, rfl, by omega, fun t _ => by simp⟩
theorem WRel.step {L xs : List Nat} {i : Nat} (h : WRel L xs i) (hi : i + 1 < xs.length) : WRel ((L.set i (dg L (i + 1))).set (i + 1) (dg L i)) xs (i + 2) := by
  obtain ⟨h1, h2, h3, h4⟩ := h
  refine ⟨by simp [h1], by omega, by omega, fun t ht => ?_⟩
  have e1 := h4 (i + 1) hi
  have e2 := h4 i (by omega)
  rw [if_neg (by omega)] at e1 e2
  by_cases a : t = i + 1
  · subst a
    rw [dg_set_same (by simp; omega), if_pos (by omega), e2]
    unfold plc
    rw [if_neg (by omega), if_pos rfl]
    congr 1
    omega
  · rw [dg_set_ne (by omega)]
    by_cases b : t = i
    · subst b
      rw [dg_set_same (by omega), if_pos (by omega), e1]
      unfold plc
      rw [if_neg (by omega), if_pos rfl]
      congr 1
      omega
    · rw [dg_set_ne (by omega), h4 t ht]
      by_cases c : t < i
      · rw [if_pos c, if_pos (by omega)]
      · rw [if_neg c, if_neg (by omega)]
theorem WRel.done {L xs : List Nat} {i : Nat} (h : WRel L xs i) (hi : ¬ i + 1 < xs.length) (h2 : xs.length % 2 = 0) : L = ordL 1 xs := by
  obtain ⟨k1, k2, k3, k4⟩ := h
  refine ext_dg (by rw [ordL_len, k1]) fun t ht => ?_
  rw [k1] at ht
  rw [dg_ordL ht, k4 t ht, if_pos (by omega)]
end Go.Slip
namespace Go.Proofs.YtcipdimogodndaaDoor
open Go.RowKit Go.Slip

def ordF (f : Fm) : Nat := if f.ext then 113 else if f.fam = 3 then 115 else 112

set_option maxHeartbeats 1000000 in
set_option maxRecDepth 100000 in
theorem reverseW_any (base : Nat) (p : Option Addr) (n c : Nat) (xs : List Nat) (w : World) (ho : Wr w base .u8 p xs) (hn : n = xs.length) (hl : xs.length ≤ 4000000000) (h0 : 0 < xs.length) :
    Calls Tryd.prog 113 #[.slice p n c] w fun e w' => e = .returned (.tuple #[]) ∧ Wr w' base .u8 p xs.reverse ∧ Below base w w' := by
  subst hn
  have HR0 := Lib.hid (RevRel.start xs h0)
  have hsx := ho.rd.solid
  go_enter Tryd.func113, Tryd.ntmps113
  go_wp2
  go_loopw [2, 3] (fun iv jv wr => ∃ (i j : Nat) (L : List Nat), iv = .int .i64 i ∧ jv = .int .i64 j ∧ i ≤ xs.length ∧ j < xs.length ∧ Wr wr base .u8 p L ∧ Below base w wr ∧ Hid (RevRel L xs i j))
    (fun iv _ _ => xs.length - (intOf iv).toNat)
  case atStart => exact ⟨0, xs.length - 1, xs, rfl, by go_num, Nat.zero_le _, by omega, ho, Below.refl _ _, HR0⟩
  case round =>
    obtain ⟨i, j, L, rfl, rfl, hi, hj, hoL, hbL, HR⟩ := hrel
    by_cases hij : i < j
    · have hLl := Lib.hid HR.out.1
      have ci := hoL.rd.cells i (by rw [hLl.out]; omega)
      have cj := hoL.rd.cells j (by rw [hLl.out]; omega)
      have fi := hoL.fr i (by rw [hLl.out]; omega)
      have s1 := hoL.set i (by rw [hLl.out]; omega) (dg L j)
      have fj := s1.1.fr j (by rw [List.length_set, hLl.out]; omega)
      have cj2 := s1.1.rd.cells j (by rw [List.length_set, hLl.out]; omega)
      rw [dg_set_ne (by omega)] at cj2
      have s2 := s1.1.set j (by rw [List.length_set, hLl.out]; omega) (dg L i)
      have HS := Lib.hid (HR.out.step hij)
      have i1 : (i : Int) < (xs.length : Int) := by omega
      have j1 : (j : Int) < (xs.length : Int) := by omega
      have i0 : (0 : Int) ≤ (i : Int) := by omega
      have j0 : (0 : Int) ≤ (j : Int) := by omega
      have hb3 : Below base w ((wr.setCell (at_ p i) (.int .u8 (dg L j : Nat))).setCell (at_ p j) (.int .u8 (dg L i : Nat))) :=
        (hbL.setCell (by exact s1.2.2) _).setCell (by exact s1.2.2) _
      have S2 := Lib.hid s2
      have HB := Lib.hid hb3
      clear s1 s2 hb3
      go_wp2_with fail
      go_region
      have ho3 := S2.out.1.drew
      have hb3 := HB.out.drew
      clear ci cj fi fj cj2 S2 HB
      generalize ((wr.setCell (at_ p i) (.int .u8 (dg L j : Nat))).setCell (at_ p j) (.int .u8 (dg L i : Nat))).drew = w3 at ho3 hb3 ⊢
      go_wp2
      go_roundw
      case rel => exact ⟨i + 1, j - 1, _, by go_num, by go_num, by omega, by omega, ho3, hb3, HS⟩
      case measure => first | (simp [intOf]; done) | (simp [intOf]; omega)
    · have HD := Lib.hid (HR.out.done hij)
      go_wp2
      go_end0
      exact ⟨rfl, HD.out ▸ hoL, hbL⟩

set_option maxHeartbeats 1000000 in
set_option maxRecDepth 100000 in
theorem words_any (base : Nat) (p : Option Addr) (n c : Nat) (xs : List Nat) (w : World) (ho : Wr w base .u8 p xs) (hn : n = xs.length) (hl : xs.length ≤ 4000000000) (h2 : xs.length % 2 = 0) :
    Calls Tryd.prog 115 #[.slice p n c] w fun e w' => e = .returned (.tuple #[]) ∧ Wr w' base .u8 p (ordL 1 xs) ∧ Below base w w' := by
  subst hn
  have HR0 := Lib.hid (WRel.start xs)
  have HE := Lib.hid h2
  clear h2
  have hsx := ho.rd.solid
  go_enter Tryd.func115, Tryd.ntmps115
  go_wp2
  go_loopw [2] (fun iv wr => ∃ (i : Nat) (L : List Nat), iv = .int .i64 i ∧ i ≤ xs.length ∧ Wr wr base .u8 p L ∧ Below base w wr ∧ Hid (WRel L xs i))
    (fun iv _ => xs.length - (intOf iv).toNat)
  case atStart => exact ⟨0, xs, rfl, Nat.zero_le _, ho, Below.refl _ _, HR0⟩
  case round =>
    obtain ⟨i, L, rfl, hi, hoL, hbL, HR⟩ := hrel
    by_cases hij : i + 1 < xs.length
    · have hLl := Lib.hid HR.out.1
      have ci := hoL.rd.cells i (by rw [hLl.out]; omega)
      have cj := hoL.rd.cells (i + 1) (by rw [hLl.out]; omega)
      have fi := hoL.fr i (by rw [hLl.out]; omega)
      have s1 := hoL.set i (by rw [hLl.out]; omega) (dg L (i + 1))
      have fj := s1.1.fr (i + 1) (by rw [List.length_set, hLl.out]; omega)
      have cj2 := s1.1.rd.cells (i + 1) (by rw [List.length_set, hLl.out]; omega)
      rw [dg_set_ne (by omega)] at cj2
      have s2 := s1.1.set (i + 1) (by rw [List.length_set, hLl.out]; omega) (dg L i)
      have HS := Lib.hid (HR.out.step hij)
      have i1 : (i : Int) < (xs.length : Int) := by omega
      have j1 : ((i + 1 : Nat) : Int) < (xs.length : Int) := by omega
      have i0 : (0 : Int) ≤ (i : Int) := by omega
      have j0 : (0 : Int) ≤ ((i + 1 : Nat) : Int) := by omega
      have e1 : IntKind.i64.wrap ((i : Int) + 1) = ((i + 1 : Nat) : Int) := (IntWalk.i64_in _ (by omega)).trans (by omega)
      have e2 : IntKind.i64.wrap ((i : Int) + 2) = ((i + 2 : Nat) : Int) := (IntWalk.i64_in _ (by omega)).trans (by omega)
      have hb3 : Below base w ((wr.setCell (at_ p i) (.int .u8 (dg L (i + 1) : Nat))).setCell (at_ p (i + 1)) (.int .u8 (dg L i : Nat))) :=
        (hbL.setCell (by exact s1.2.2) _).setCell (by exact s1.2.2) _
      have S2 := Lib.hid s2
      have HB := Lib.hid hb3
      clear s1 s2 hb3
      generalize hj : i + 1 = j at *
      go_wp2_with fail
      go_region
      have ho3 := S2.out.1.drew
      have hb3 := HB.out.drew
      clear ci cj fi fj cj2 S2 HB
      generalize ((wr.setCell (at_ p i) (.int .u8 (dg L j : Nat))).setCell (at_ p j) (.int .u8 (dg L i : Nat))).drew = w3 at ho3 hb3 ⊢
      go_wp2
      go_roundw
      case rel => exact ⟨i + 2, _, by go_num, by omega, ho3, hb3, HS⟩
      case measure => first | (simp [intOf]; done) | (simp [intOf]; omega)
    · have HD := Lib.hid (HR.out.done hij HE.out)
      go_wp2
      go_end0
      exact ⟨rfl, HD.out ▸ hoL, hbL⟩

theorem asis_any (p : Option Addr) (n c : Nat) (w : World) :
    Calls Tryd.prog 112 #[.slice p n c] w fun e w' => e = .returned (.tuple #[]) ∧ Below w.heap.size w w' := by
  refine calls_of_wp Tryd.func112 rfl ?_
  refine sx_frame (a' := ⟨((.slice p n c) :: undef :: []).toArray, []⟩) (by kernel_rfl) ?_
  refine wp_skip ?_
  refine yend (.tuple #[]) (res0 Tryd.results112 ) ?_
  exact ⟨rfl, (Below.refl _ _)⟩

theorem exec_ord3 (k : Nat) (hk : k = 113 ∨ k = 115 ∨ k = 112) {a : Act} {w : World} {x y : Operand} {v : Value} {dst : Option Tmp} {t2 tt : TypeId} {pos : String} {af : Array Edge} {g : Option (Nat × Bool)} (hx : a.eval x = .func (.func k) #[] #[]) (hy : a.eval y = v) :
    (execOp a.eval ⟨dst, .call { callee := .value x, args := #[y], argTypes := #[tt] }, t2, pos, af, g⟩).run Tryd.prog w = .ok (.enter k #[v]) w := by
  unfold execOp
  simp only [resolve, hx, hy, List.map_toArray, List.map_cons, List.map_nil]
  rcases hk with hk | hk | hk
  · subst hk
    kernel_rfl
  · subst hk
    kernel_rfl
  · subst hk
    kernel_rfl
theorem ordF_is (f : Fm) : ordF f = 113 ∨ ordF f = 115 ∨ ordF f = 112 := by
  unfold ordF
  split
  · simp
  · split <;> simp

theorem ord_any (f : Fm) (base : Nat) (p : Option Addr) (n c : Nat) (xs : List Nat) (w : World) (G : GoodF f) (ho : Wr w base .u8 p xs) (hn : n = xs.length) (hs : xs.length = f.size) (hb : base ≤ w.heap.size) :
    Calls Tryd.prog (ordF f) #[.slice p n c] w fun e w' => e = .returned (.tuple #[]) ∧ Wr w' base .u8 p (ordL f.ord xs) ∧ Below base w w' := by
  have hz := G.sz
  unfold ordF Fm.ord
  cases f.ext with
  | true =>
    rw [if_pos rfl, if_pos rfl, ordL_two]
    exact reverseW_any base p n c xs w ho hn (by omega) (by omega)
  | false =>
    rw [if_neg (show ¬ (false = true) by simp), if_neg (show ¬ (false = true) by simp)]
    by_cases h : f.fam = 3
    · rw [if_pos h, if_pos h]
      exact words_any base p n c xs w ho hn (by omega) (by omega)
    · rw [if_neg h, if_neg h, ordL_zero]
      exact (asis_any p n c w).mono fun e w' ⟨h1, h2⟩ => ⟨h1, ho.past h2, h2.mono hb⟩

theorem binary_any (d l g : Int) (gr : Bool) (w : World) : Calls Tryd.prog 111 #[.int .i64 d, .int .i64 l, .int .i64 g, .bool gr] w
    fun e w' => e = .returned (.agg #[.int .i64 2, .int .i64 d, .int .i64 l, .int .i64 g, .bool gr]) ∧ Below w.heap.size w w' := by
  have hT29 : SxAgg Tryd.prog 29 5 := sxAgg_of (by kernel_rfl) (by kernel_rfl)
  refine calls_of_wp Tryd.func111 rfl ?_
  refine sx_frame (a' := ⟨((.int .i64 d) :: (.int .i64 l) :: (.int .i64 g) :: (.bool gr) :: us 10 []).toArray, []⟩) (by kernel_rfl) ?_
  refine ye ?_
  refine yw 0 rfl 8 #[.int .i64 0, .int .i64 0, .int .i64 0, .int .i64 0, .bool false] 29 (fun V1 hbV1 hzV1 b8 => ?_)
  refine yzt 0 ?_
  refine ye ?_
  have boV2 := b8
  refine ysw 5 rfl b8 hT29 #[.int .i64 2, .int .i64 d, .int .i64 l, .int .i64 g, .bool gr] ?_
  clear b8
  intro V2 hOV2 b8
  have hzV2 := hOV2.size
  refine yzt 0 ?_
  refine wp_ret ?_
  repeat (first | with_reducible refine sx_thenret ?_ | with_reducible refine sx_blockret ?_)
  refine yret (.agg #[.int .i64 2, .int .i64 d, .int .i64 l, .int .i64 g, .bool gr]) (res1 Tryd.results111 (rvr b8 hT29)) ?_
  exact ⟨rfl, (hbV1.trans (hOV2.below (by omega)))⟩
theorem hexes_any (d l g : Int) (w : World) : Calls Tryd.prog 114 #[.int .i64 d, .int .i64 l, .int .i64 g] w
    fun e w' => e = .returned (.agg #[.int .i64 16, .int .i64 d, .int .i64 l, .int .i64 g, .bool false]) ∧ Below w.heap.size w w' := by
  have hT29 : SxAgg Tryd.prog 29 5 := sxAgg_of (by kernel_rfl) (by kernel_rfl)
  refine calls_of_wp Tryd.func114 rfl ?_
  refine sx_frame (a' := ⟨((.int .i64 d) :: (.int .i64 l) :: (.int .i64 g) :: us 8 []).toArray, []⟩) (by kernel_rfl) ?_
  refine ye ?_
  refine yw 0 rfl 6 #[.int .i64 0, .int .i64 0, .int .i64 0, .int .i64 0, .bool false] 29 (fun V1 hbV1 hzV1 b6 => ?_)
  refine yzt 0 ?_
  refine ye ?_
  have boV2 := b6
  refine ysw 4 rfl b6 hT29 #[.int .i64 16, .int .i64 d, .int .i64 l, .int .i64 g, .bool false] ?_
  clear b6
  intro V2 hOV2 b6
  have hzV2 := hOV2.size
  refine yzt 0 ?_
  refine wp_ret ?_
  repeat (first | with_reducible refine sx_thenret ?_ | with_reducible refine sx_blockret ?_)
  refine yret (.agg #[.int .i64 16, .int .i64 d, .int .i64 l, .int .i64 g, .bool false]) (res1 Tryd.results114 (rvr b6 hT29)) ?_
  exact ⟨rfl, (hbV1.trans (hOV2.below (by omega)))⟩

def noForm : Value := .agg #[.int .i64 0, .int .i64 0, .int .i64 0, .int .i64 0, .int .i64 0, .int .i64 0, .int .i64 0, .bool false, .bool false, .bool false, .bool false, .nilFunc]

set_option maxRecDepth 100000 in
theorem forms_any (n : Int) (hn : IsFm n) (w : World) : Calls Tryd.prog 69 #[.int .i64 n] w
    fun e w' => e = .returned (.tuple #[.agg #[.int .i64 (((fmt n).size : Nat) : Int), .int .i64 (((fmt n).E : Nat) : Int), .int .i64 (((fmt n).F : Nat) : Int), .int .i64 (fmt n).g.rad, .int .i64 (fmt n).g.digs, .int .i64 (fmt n).g.lo, .int .i64 (fmt n).g.hi, .bool (fmt n).g.grad, .bool (fmt n).hid, .bool (fmt n).inf, .bool (fmt n).res, .func (.func (ordF (fmt n))) #[] #[]], .int .i64 0]) ∧ Below w.heap.size w w' := by
  rcases fm_cases hn with rfl | rfl | rfl | rfl | rfl | rfl | rfl | rfl
  · skip
    have hT116 : SxAgg Tryd.prog 116 12 := sxAgg_of (by kernel_rfl) (by kernel_rfl)
    refine calls_of_wp Tryd.func69 rfl ?_
    refine sx_frame (a' := ⟨((.int .i64 1) :: us 37 []).toArray, []⟩) (by kernel_rfl) ?_
    refine ye ?_
    refine yw 0 rfl 2 #[.int .i64 0, .int .i64 0, .int .i64 0, .int .i64 0, .int .i64 0, .int .i64 0, .int .i64 0, .bool false, .bool false, .bool false, .bool false, .nilFunc] 116 (fun V1 hbV1 hzV1 b2 => ?_)
    refine yzt 1 ?_
    refine wp_seq ?_
    refine yq ?_
    refine wp_block ?_
    refine yq ?_
    refine yT ?_
    refine ye ?_
    refine yc 0 rfl 7 (binary_any 24 (-149) 104 true V1) (fun Gx hGx => ?_)
    rintro eV2 V2 ⟨rfl, hbV2⟩
    have hzV2 := hbV2.size
    refine ⟨_, rfl, hGx _ _ ?_⟩
    clear hGx Gx
    replace b2 := (b2.past hbV2)
    have boV3 := b2
    refine ysw 1 rfl b2 hT116 #[.int .i64 4, .int .i64 8, .int .i64 23, .int .i64 2, .int .i64 24, .int .i64 (-149), .int .i64 104, .bool true, .bool true, .bool true, .bool false, .func (.func 112) #[] #[]] ?_
    clear b2
    intro V3 hOV3 b2
    have hzV3 := hOV3.size
    refine yzt 1 ?_
    refine wp_ret ?_
    repeat (first | with_reducible refine sx_thenret ?_ | with_reducible refine sx_blockret ?_)
    refine yret (.tuple #[.agg #[.int .i64 4, .int .i64 8, .int .i64 23, .int .i64 2, .int .i64 24, .int .i64 (-149), .int .i64 104, .bool true, .bool true, .bool true, .bool false, .func (.func 112) #[] #[]], .int .i64 0]) (res2 Tryd.results69 (rvr b2 hT116) rvt) ?_
    exact ⟨by kernel_rfl, ((bthru hbV1 hbV2).trans (hOV3.below (by omega)))⟩
  · skip
    have hT116 : SxAgg Tryd.prog 116 12 := sxAgg_of (by kernel_rfl) (by kernel_rfl)
    refine calls_of_wp Tryd.func69 rfl ?_
    refine sx_frame (a' := ⟨((.int .i64 2) :: us 37 []).toArray, []⟩) (by kernel_rfl) ?_
    refine ye ?_
    refine yw 0 rfl 2 #[.int .i64 0, .int .i64 0, .int .i64 0, .int .i64 0, .int .i64 0, .int .i64 0, .int .i64 0, .bool false, .bool false, .bool false, .bool false, .nilFunc] 116 (fun V1 hbV1 hzV1 b2 => ?_)
    refine yzt 1 ?_
    refine wp_seq ?_
    refine yq ?_
    refine wp_block ?_
    refine yq ?_
    refine yF ?_
    refine yq ?_
    refine yT ?_
    refine ye ?_
    refine yc 0 rfl 11 (binary_any 53 (-1074) 971 true V1) (fun Gx hGx => ?_)
    rintro eV2 V2 ⟨rfl, hbV2⟩
    have hzV2 := hbV2.size
    refine ⟨_, rfl, hGx _ _ ?_⟩
    clear hGx Gx
    replace b2 := (b2.past hbV2)
    have boV3 := b2
    refine ysw 1 rfl b2 hT116 #[.int .i64 8, .int .i64 11, .int .i64 52, .int .i64 2, .int .i64 53, .int .i64 (-1074), .int .i64 971, .bool true, .bool true, .bool true, .bool false, .func (.func 112) #[] #[]] ?_
    clear b2
    intro V3 hOV3 b2
    have hzV3 := hOV3.size
    refine yzt 1 ?_
    refine wp_ret ?_
    repeat (first | with_reducible refine sx_thenret ?_ | with_reducible refine sx_blockret ?_)
    refine yret (.tuple #[.agg #[.int .i64 8, .int .i64 11, .int .i64 52, .int .i64 2, .int .i64 53, .int .i64 (-1074), .int .i64 971, .bool true, .bool true, .bool true, .bool false, .func (.func 112) #[] #[]], .int .i64 0]) (res2 Tryd.results69 (rvr b2 hT116) rvt) ?_
    exact ⟨by kernel_rfl, ((bthru hbV1 hbV2).trans (hOV3.below (by omega)))⟩
  · skip
    have hT116 : SxAgg Tryd.prog 116 12 := sxAgg_of (by kernel_rfl) (by kernel_rfl)
    refine calls_of_wp Tryd.func69 rfl ?_
    refine sx_frame (a' := ⟨((.int .i64 3) :: us 37 []).toArray, []⟩) (by kernel_rfl) ?_
    refine ye ?_
    refine yw 0 rfl 2 #[.int .i64 0, .int .i64 0, .int .i64 0, .int .i64 0, .int .i64 0, .int .i64 0, .int .i64 0, .bool false, .bool false, .bool false, .bool false, .nilFunc] 116 (fun V1 hbV1 hzV1 b2 => ?_)
    refine yzt 1 ?_
    refine wp_seq ?_
    refine yq ?_
    refine wp_block ?_
    refine yq ?_
    refine yF ?_
    refine yq ?_
    refine yF ?_
    refine yq ?_
    refine yT ?_
    refine ye ?_
    refine yc 0 rfl 15 (binary_any 64 (-16445) 16320 true V1) (fun Gx hGx => ?_)
    rintro eV2 V2 ⟨rfl, hbV2⟩
    have hzV2 := hbV2.size
    refine ⟨_, rfl, hGx _ _ ?_⟩
    clear hGx Gx
    replace b2 := (b2.past hbV2)
    have boV3 := b2
    refine ysw 1 rfl b2 hT116 #[.int .i64 10, .int .i64 15, .int .i64 64, .int .i64 2, .int .i64 64, .int .i64 (-16445), .int .i64 16320, .bool true, .bool false, .bool true, .bool false, .func (.func 113) #[] #[]] ?_
    clear b2
    intro V3 hOV3 b2
    have hzV3 := hOV3.size
    refine yzt 1 ?_
    refine wp_ret ?_
    repeat (first | with_reducible refine sx_thenret ?_ | with_reducible refine sx_blockret ?_)
    refine yret (.tuple #[.agg #[.int .i64 10, .int .i64 15, .int .i64 64, .int .i64 2, .int .i64 64, .int .i64 (-16445), .int .i64 16320, .bool true, .bool false, .bool true, .bool false, .func (.func 113) #[] #[]], .int .i64 0]) (res2 Tryd.results69 (rvr b2 hT116) rvt) ?_
    exact ⟨by kernel_rfl, ((bthru hbV1 hbV2).trans (hOV3.below (by omega)))⟩
  · skip
    have hT116 : SxAgg Tryd.prog 116 12 := sxAgg_of (by kernel_rfl) (by kernel_rfl)
    refine calls_of_wp Tryd.func69 rfl ?_
    refine sx_frame (a' := ⟨((.int .i64 4) :: us 37 []).toArray, []⟩) (by kernel_rfl) ?_
    refine ye ?_
    refine yw 0 rfl 2 #[.int .i64 0, .int .i64 0, .int .i64 0, .int .i64 0, .int .i64 0, .int .i64 0, .int .i64 0, .bool false, .bool false, .bool false, .bool false, .nilFunc] 116 (fun V1 hbV1 hzV1 b2 => ?_)
    refine yzt 1 ?_
    refine wp_seq ?_
    refine yq ?_
    refine wp_block ?_
    refine yq ?_
    refine yF ?_
    refine yq ?_
    refine yF ?_
    refine yq ?_
    refine yF ?_
    refine yq ?_
    refine yT ?_
    refine ye ?_
    refine yc 0 rfl 19 (hexes_any 6 (-70) 57 V1) (fun Gx hGx => ?_)
    rintro eV2 V2 ⟨rfl, hbV2⟩
    have hzV2 := hbV2.size
    refine ⟨_, rfl, hGx _ _ ?_⟩
    clear hGx Gx
    replace b2 := (b2.past hbV2)
    have boV3 := b2
    refine ysw 1 rfl b2 hT116 #[.int .i64 4, .int .i64 7, .int .i64 24, .int .i64 16, .int .i64 6, .int .i64 (-70), .int .i64 57, .bool false, .bool false, .bool false, .bool false, .func (.func 112) #[] #[]] ?_
    clear b2
    intro V3 hOV3 b2
    have hzV3 := hOV3.size
    refine yzt 1 ?_
    refine wp_ret ?_
    repeat (first | with_reducible refine sx_thenret ?_ | with_reducible refine sx_blockret ?_)
    refine yret (.tuple #[.agg #[.int .i64 4, .int .i64 7, .int .i64 24, .int .i64 16, .int .i64 6, .int .i64 (-70), .int .i64 57, .bool false, .bool false, .bool false, .bool false, .func (.func 112) #[] #[]], .int .i64 0]) (res2 Tryd.results69 (rvr b2 hT116) rvt) ?_
    exact ⟨by kernel_rfl, ((bthru hbV1 hbV2).trans (hOV3.below (by omega)))⟩
  · skip
    have hT116 : SxAgg Tryd.prog 116 12 := sxAgg_of (by kernel_rfl) (by kernel_rfl)
    refine calls_of_wp Tryd.func69 rfl ?_
    refine sx_frame (a' := ⟨((.int .i64 5) :: us 37 []).toArray, []⟩) (by kernel_rfl) ?_
    refine ye ?_
    refine yw 0 rfl 2 #[.int .i64 0, .int .i64 0, .int .i64 0, .int .i64 0, .int .i64 0, .int .i64 0, .int .i64 0, .bool false, .bool false, .bool false, .bool false, .nilFunc] 116 (fun V1 hbV1 hzV1 b2 => ?_)
    refine yzt 1 ?_
    refine wp_seq ?_
    refine yq ?_
    refine wp_block ?_
    refine yq ?_
    refine yF ?_
    refine yq ?_
    refine yF ?_
    refine yq ?_
    refine yF ?_
    refine yq ?_
    refine yF ?_
    refine yq ?_
    refine yT ?_
    refine ye ?_
    refine yc 0 rfl 23 (hexes_any 14 (-78) 49 V1) (fun Gx hGx => ?_)
    rintro eV2 V2 ⟨rfl, hbV2⟩
    have hzV2 := hbV2.size
    refine ⟨_, rfl, hGx _ _ ?_⟩
    clear hGx Gx
    replace b2 := (b2.past hbV2)
    have boV3 := b2
    refine ysw 1 rfl b2 hT116 #[.int .i64 8, .int .i64 7, .int .i64 56, .int .i64 16, .int .i64 14, .int .i64 (-78), .int .i64 49, .bool false, .bool false, .bool false, .bool false, .func (.func 112) #[] #[]] ?_
    clear b2
    intro V3 hOV3 b2
    have hzV3 := hOV3.size
    refine yzt 1 ?_
    refine wp_ret ?_
    repeat (first | with_reducible refine sx_thenret ?_ | with_reducible refine sx_blockret ?_)
    refine yret (.tuple #[.agg #[.int .i64 8, .int .i64 7, .int .i64 56, .int .i64 16, .int .i64 14, .int .i64 (-78), .int .i64 49, .bool false, .bool false, .bool false, .bool false, .func (.func 112) #[] #[]], .int .i64 0]) (res2 Tryd.results69 (rvr b2 hT116) rvt) ?_
    exact ⟨by kernel_rfl, ((bthru hbV1 hbV2).trans (hOV3.below (by omega)))⟩
  · skip
    have hT116 : SxAgg Tryd.prog 116 12 := sxAgg_of (by kernel_rfl) (by kernel_rfl)
    refine calls_of_wp Tryd.func69 rfl ?_
    refine sx_frame (a' := ⟨((.int .i64 6) :: us 37 []).toArray, []⟩) (by kernel_rfl) ?_
    refine ye ?_
    refine yw 0 rfl 2 #[.int .i64 0, .int .i64 0, .int .i64 0, .int .i64 0, .int .i64 0, .int .i64 0, .int .i64 0, .bool false, .bool false, .bool false, .bool false, .nilFunc] 116 (fun V1 hbV1 hzV1 b2 => ?_)
    refine yzt 1 ?_
    refine wp_seq ?_
    refine yq ?_
    refine wp_block ?_
    refine yq ?_
    refine yF ?_
    refine yq ?_
    refine yF ?_
    refine yq ?_
    refine yF ?_
    refine yq ?_
    refine yF ?_
    refine yq ?_
    refine yF ?_
    refine yq ?_
    refine yT ?_
    refine ye ?_
    refine yc 0 rfl 27 (binary_any 24 (-151) 103 false V1) (fun Gx hGx => ?_)
    rintro eV2 V2 ⟨rfl, hbV2⟩
    have hzV2 := hbV2.size
    refine ⟨_, rfl, hGx _ _ ?_⟩
    clear hGx Gx
    replace b2 := (b2.past hbV2)
    have boV3 := b2
    refine ysw 1 rfl b2 hT116 #[.int .i64 4, .int .i64 8, .int .i64 23, .int .i64 2, .int .i64 24, .int .i64 (-151), .int .i64 103, .bool false, .bool true, .bool false, .bool true, .func (.func 115) #[] #[]] ?_
    clear b2
    intro V3 hOV3 b2
    have hzV3 := hOV3.size
    refine yzt 1 ?_
    refine wp_ret ?_
    repeat (first | with_reducible refine sx_thenret ?_ | with_reducible refine sx_blockret ?_)
    refine yret (.tuple #[.agg #[.int .i64 4, .int .i64 8, .int .i64 23, .int .i64 2, .int .i64 24, .int .i64 (-151), .int .i64 103, .bool false, .bool true, .bool false, .bool true, .func (.func 115) #[] #[]], .int .i64 0]) (res2 Tryd.results69 (rvr b2 hT116) rvt) ?_
    exact ⟨by kernel_rfl, ((bthru hbV1 hbV2).trans (hOV3.below (by omega)))⟩
  · skip
    have hT116 : SxAgg Tryd.prog 116 12 := sxAgg_of (by kernel_rfl) (by kernel_rfl)
    refine calls_of_wp Tryd.func69 rfl ?_
    refine sx_frame (a' := ⟨((.int .i64 7) :: us 37 []).toArray, []⟩) (by kernel_rfl) ?_
    refine ye ?_
    refine yw 0 rfl 2 #[.int .i64 0, .int .i64 0, .int .i64 0, .int .i64 0, .int .i64 0, .int .i64 0, .int .i64 0, .bool false, .bool false, .bool false, .bool false, .nilFunc] 116 (fun V1 hbV1 hzV1 b2 => ?_)
    refine yzt 1 ?_
    refine wp_seq ?_
    refine yq ?_
    refine wp_block ?_
    refine yq ?_
    refine yF ?_
    refine yq ?_
    refine yF ?_
    refine yq ?_
    refine yF ?_
    refine yq ?_
    refine yF ?_
    refine yq ?_
    refine yF ?_
    refine yq ?_
    refine yF ?_
    refine yq ?_
    refine yT ?_
    refine ye ?_
    refine yc 0 rfl 31 (binary_any 56 (-183) 71 false V1) (fun Gx hGx => ?_)
    rintro eV2 V2 ⟨rfl, hbV2⟩
    have hzV2 := hbV2.size
    refine ⟨_, rfl, hGx _ _ ?_⟩
    clear hGx Gx
    replace b2 := (b2.past hbV2)
    have boV3 := b2
    refine ysw 1 rfl b2 hT116 #[.int .i64 8, .int .i64 8, .int .i64 55, .int .i64 2, .int .i64 56, .int .i64 (-183), .int .i64 71, .bool false, .bool true, .bool false, .bool true, .func (.func 115) #[] #[]] ?_
    clear b2
    intro V3 hOV3 b2
    have hzV3 := hOV3.size
    refine yzt 1 ?_
    refine wp_ret ?_
    repeat (first | with_reducible refine sx_thenret ?_ | with_reducible refine sx_blockret ?_)
    refine yret (.tuple #[.agg #[.int .i64 8, .int .i64 8, .int .i64 55, .int .i64 2, .int .i64 56, .int .i64 (-183), .int .i64 71, .bool false, .bool true, .bool false, .bool true, .func (.func 115) #[] #[]], .int .i64 0]) (res2 Tryd.results69 (rvr b2 hT116) rvt) ?_
    exact ⟨by kernel_rfl, ((bthru hbV1 hbV2).trans (hOV3.below (by omega)))⟩
  · skip
    have hT116 : SxAgg Tryd.prog 116 12 := sxAgg_of (by kernel_rfl) (by kernel_rfl)
    refine calls_of_wp Tryd.func69 rfl ?_
    refine sx_frame (a' := ⟨((.int .i64 8) :: us 37 []).toArray, []⟩) (by kernel_rfl) ?_
    refine ye ?_
    refine yw 0 rfl 2 #[.int .i64 0, .int .i64 0, .int .i64 0, .int .i64 0, .int .i64 0, .int .i64 0, .int .i64 0, .bool false, .bool false, .bool false, .bool false, .nilFunc] 116 (fun V1 hbV1 hzV1 b2 => ?_)
    refine yzt 1 ?_
    refine wp_seq ?_
    refine yq ?_
    refine wp_block ?_
    refine yq ?_
    refine yF ?_
    refine yq ?_
    refine yF ?_
    refine yq ?_
    refine yF ?_
    refine yq ?_
    refine yF ?_
    refine yq ?_
    refine yF ?_
    refine yq ?_
    refine yF ?_
    refine yq ?_
    refine yF ?_
    refine yq ?_
    refine yT ?_
    refine ye ?_
    refine yc 0 rfl 35 (binary_any 53 (-1076) 970 false V1) (fun Gx hGx => ?_)
    rintro eV2 V2 ⟨rfl, hbV2⟩
    have hzV2 := hbV2.size
    refine ⟨_, rfl, hGx _ _ ?_⟩
    clear hGx Gx
    replace b2 := (b2.past hbV2)
    have boV3 := b2
    refine ysw 1 rfl b2 hT116 #[.int .i64 8, .int .i64 11, .int .i64 52, .int .i64 2, .int .i64 53, .int .i64 (-1076), .int .i64 970, .bool false, .bool true, .bool false, .bool true, .func (.func 115) #[] #[]] ?_
    clear b2
    intro V3 hOV3 b2
    have hzV3 := hOV3.size
    refine yzt 1 ?_
    refine wp_ret ?_
    repeat (first | with_reducible refine sx_thenret ?_ | with_reducible refine sx_blockret ?_)
    refine yret (.tuple #[.agg #[.int .i64 8, .int .i64 11, .int .i64 52, .int .i64 2, .int .i64 53, .int .i64 (-1076), .int .i64 970, .bool false, .bool true, .bool false, .bool true, .func (.func 115) #[] #[]], .int .i64 0]) (res2 Tryd.results69 (rvr b2 hT116) rvt) ?_
    exact ⟨by kernel_rfl, ((bthru hbV1 hbV2).trans (hOV3.below (by omega)))⟩
set_option maxRecDepth 100000 in
theorem forms_not (n : Int) (hn : ¬ IsFm n) (w : World) : Calls Tryd.prog 69 #[.int .i64 n] w
    fun e w' => e = .returned (.tuple #[noForm, .int .i64 6]) ∧ Below w.heap.size w w' := by
  unfold IsFm at hn
  have hT116 : SxAgg Tryd.prog 116 12 := sxAgg_of (by kernel_rfl) (by kernel_rfl)
  refine calls_of_wp Tryd.func69 rfl ?_
  refine sx_frame (a' := ⟨((.int .i64 n) :: us 37 []).toArray, []⟩) (by kernel_rfl) ?_
  refine ye ?_
  refine yw 0 rfl 2 #[.int .i64 0, .int .i64 0, .int .i64 0, .int .i64 0, .int .i64 0, .int .i64 0, .int .i64 0, .bool false, .bool false, .bool false, .bool false, .nilFunc] 116 (fun V1 hbV1 hzV1 b2 => ?_)
  refine yzt 1 ?_
  refine wp_seq ?_
  refine yq ?_
  refine wp_block ?_
  refine ye ?_
  refine yb 0 rfl 6 (n == 1) (false) (beq_eq_false_iff_ne.2 (by omega)) ?_
  refine yzt 1 ?_
  refine yF ?_
  refine ye ?_
  refine yb 0 rfl 10 (n == 2) (false) (beq_eq_false_iff_ne.2 (by omega)) ?_
  refine yzt 1 ?_
  refine yF ?_
  refine ye ?_
  refine yb 0 rfl 14 (n == 3) (false) (beq_eq_false_iff_ne.2 (by omega)) ?_
  refine yzt 1 ?_
  refine yF ?_
  refine ye ?_
  refine yb 0 rfl 18 (n == 4) (false) (beq_eq_false_iff_ne.2 (by omega)) ?_
  refine yzt 1 ?_
  refine yF ?_
  refine ye ?_
  refine yb 0 rfl 22 (n == 5) (false) (beq_eq_false_iff_ne.2 (by omega)) ?_
  refine yzt 1 ?_
  refine yF ?_
  refine ye ?_
  refine yb 0 rfl 26 (n == 6) (false) (beq_eq_false_iff_ne.2 (by omega)) ?_
  refine yzt 1 ?_
  refine yF ?_
  refine ye ?_
  refine yb 0 rfl 30 (n == 7) (false) (beq_eq_false_iff_ne.2 (by omega)) ?_
  refine yzt 1 ?_
  refine yF ?_
  refine ye ?_
  refine yb 0 rfl 34 (n == 8) (false) (beq_eq_false_iff_ne.2 (by omega)) ?_
  refine yzt 1 ?_
  refine yF ?_
  refine wp_skip ?_
  refine sx_inblock ?_
  refine sx_then ?_
  refine ye ?_
  have boV2 := b2
  refine ysw 1 rfl b2 hT116 #[.int .i64 0, .int .i64 0, .int .i64 0, .int .i64 0, .int .i64 0, .int .i64 0, .int .i64 0, .bool false, .bool false, .bool false, .bool false, .nilFunc] ?_
  clear b2
  intro V2 hOV2 b2
  have hzV2 := hOV2.size
  refine yzt 1 ?_
  refine wp_ret ?_
  repeat (first | with_reducible refine sx_thenret ?_ | with_reducible refine sx_blockret ?_)
  refine yret (.tuple #[.agg #[.int .i64 0, .int .i64 0, .int .i64 0, .int .i64 0, .int .i64 0, .int .i64 0, .int .i64 0, .bool false, .bool false, .bool false, .bool false, .nilFunc], .int .i64 6]) (res2 Tryd.results69 (rvr b2 hT116) rvt) ?_
  exact ⟨by kernel_rfl, (hbV1.trans (hOV2.below (by omega)))⟩

end Go.Proofs.YtcipdimogodndaaDoor

namespace Go.Proofs.YtcipdimogodndaaDoor
open Go.RowKit Go.Slip

def OfRel32 (O : List Nat) (u N : Nat) : Prop := O ++ dig B32 u = dig B32 N

theorem OfRel32.len {O : List Nat} {u N : Nat} (h : OfRel32 O u N) : O.length ≤ (dig B32 N).length := by
  have := congrArg List.length h
  simp at this; omega

theorem OfRel32.step {O : List Nat} {u N : Nat} (h : OfRel32 O u N) (h0 : 0 < u) : OfRel32 (O ++ [u % 4294967296]) (u / 4294967296) N := by
  unfold OfRel32 at *
  rw [dig_pos B32_two h0] at h
  rw [← h]
  simp [B32]

set_option maxHeartbeats 1000000 in
theorem of_any (N : Nat) (w : World) (hN : N < 9223372036854775808) : Calls Tryd.prog 96 #[.int .i64 N] w (Gives w .u32 91 (dig B32 N)) := by
  have hl : (dig B32 N).length ≤ 2 := (dig_len_le B32_two N 2).2 (by unfold B32; omega)
  go_enter Tryd.func96, Tryd.ntmps96
  go_wp2
  go_loopw [3, 4] (fun av uv wr => ∃ (u : Nat) (t : Option Addr) (e : Nat) (O : List Nat), uv = .int .u64 u ∧ av = .slice t O.length e ∧ u ≤ N ∧ Own wr w.heap.size .u32 91 t e O ∧ Below w.heap.size w wr ∧ Hid (OfRel32 O u N))
    (fun _ uv _ => (intOf uv).toNat)
  case atStart => exact ⟨N, none, 0, [], by go_num, rfl, Nat.le_refl _, Own.nil _ _ _ _, Below.refl _ _, (show OfRel32 [] N N from rfl)⟩
  case round =>
    obtain ⟨u, t, e, O, rfl, rfl, hu, hoO, hb, HR⟩ := hrel
    have hOl : O.length ≤ 2 := Nat.le_trans HR.out.len hl
    by_cases h0 : 0 < u
    · have HS := Lib.hid (HR.out.step h0)
      go_wp2_with (first
        | (refine wpl_build1 rfl _ _ rfl tyNat _ ?_ rfl ?_; omega; intro p2 w2 ho2 hb2 hz2 hp2)
        | (at_builtin; refine wpl_append rfl _ _ _ rfl tyNat _ _ _ _ _ (hoO.past hb2) rfl _ _ _ _ ho2.rd rfl rfl rfl ?_ ?_ ?_; (simp; omega); (have := hb2.size; have := hb.size; omega); intro p3 c3 w3 ho3 hg3 hb3 hn3))
      have e4 : ((u : Int) % 4294967296).toNat = u % 4294967296 := by omega
      rw [e4] at ho3
      have hb4 := hb.trans ((hb2.mono hb.size).trans hb3)
      go_roundw
      case rel => exact ⟨u / 4294967296, p3, c3, _, by go_num, by simp, by omega, ho3, hb4, HS⟩
      case measure => simp [intOf]; omega
    · obtain rfl : u = 0 := by omega
      go_wp2
      go_ret
      have := HR.out
      unfold OfRel32 at this
      rw [dig_zero, List.append_nil] at this
      rw [← this]
      exact ⟨t, e, rfl, hoO, hb⟩

end Go.Proofs.YtcipdimogodndaaDoor

namespace Go.Slip

/-! ### roots -/
def IsRoot (m R : Nat) : Prop := R * R ≤ m ∧ m < (R + 1) * (R + 1)

theorem IsRoot.half {m R : Nat} (h : IsRoot (m * 4) R) : IsRoot m (R / 2) := by
  obtain ⟨h1, h2⟩ := h
  have h3 : R = 2 * (R / 2) + R % 2 := by omega
  have h4 : R % 2 < 2 := Nat.mod_lt _ (by omega)
  generalize R / 2 = u at *
  generalize R % 2 = v at *
  subst h3
  constructor
  · have : (2 * u) * (2 * u) ≤ (2 * u + v) * (2 * u + v) := Nat.mul_le_mul (by omega) (by omega)
    have e : (2 * u) * (2 * u) = 4 * (u * u) := by grind
    omega
  · have : (2 * u + v + 1) * (2 * u + v + 1) ≤ (2 * (u + 1)) * (2 * (u + 1)) := Nat.mul_le_mul (by omega) (by omega)
    have e : (2 * (u + 1)) * (2 * (u + 1)) = 4 * ((u + 1) * (u + 1)) := by grind
    omega

theorem IsRoot.mono {m m' R R' : Nat} (h : IsRoot m R) (k : IsRoot m' R') (hm : m ≤ m') : R ≤ R' := by
  rcases Nat.lt_or_ge R' R with c | c
  · have := Nat.mul_le_mul c c
    have h1 := h.1; have h2 := k.2
    simp only [Nat.succ_eq_add_one] at this
    omega
  · exact c

end Go.Slip

namespace Go.Proofs.YtcipdimogodndaaDoor
open Go.RowKit Go.Slip

theorem Box3.put {w : World} {b : Nat} {v0 v1 v2 : Value} (h : Box3 w b v0 v1 v2) (u0 u1 u2 : Value) : Box3 (((w.setCell ⟨b, 0, none⟩ u0).setCell ⟨b, 1, none⟩ u1).setCell ⟨b, 2, none⟩ u2) b u0 u1 u2 := by
  have h1 : Box3 (w.setCell ⟨b, 0, none⟩ u0) b u0 v1 v2 :=
    ⟨World.cell?_setCell_same _ _ _ h.c0, (World.cell?_setCell_other _ _ _ _ (by simp)).trans h.c1, (World.cell?_setCell_other _ _ _ _ (by simp)).trans h.c2, by simpa using h.f0, by simpa using h.f1, by simpa using h.f2, by simpa using h.lt⟩
  have h2 : Box3 ((w.setCell ⟨b, 0, none⟩ u0).setCell ⟨b, 1, none⟩ u1) b u0 u1 v2 :=
    ⟨(World.cell?_setCell_other _ _ _ _ (by simp)).trans h1.c0, World.cell?_setCell_same _ _ _ h1.c1, (World.cell?_setCell_other _ _ _ _ (by simp)).trans h1.c2, by simpa using h.f0, by simpa using h.f1, by simpa using h.f2, by simpa using h.lt⟩
  exact ⟨(World.cell?_setCell_other _ _ _ _ (by simp)).trans h2.c0, (World.cell?_setCell_other _ _ _ _ (by simp)).trans h2.c1, World.cell?_setCell_same _ _ _ h2.c2, by simpa using h.f0, by simpa using h.f1, by simpa using h.f2, by simpa using h.lt⟩

end Go.Proofs.YtcipdimogodndaaDoor

namespace Go.Proofs.YtcipdimogodndaaDoor
open Go.RowKit Go.Slip

theorem _root_.Go.Slip.Bx.bb3 {w : World} {b : Nat} {v0 v1 v2 : Value} (h : Bx w b #[v0, v1, v2]) : Box3 w b v0 v1 v2 :=
  ⟨h.e3.1, h.e3.2.1, h.e3.2.2, h.f 0, h.f 1, h.f 2, h.lt⟩

set_option maxHeartbeats 1000000 in
theorem whole_any (p : Option Addr) (n c : Nat) (e : Int) (m : Nat) (w : World) (hp : Rd w .u32 p (dig B32 m)) (hn : n = (dig B32 m).length) (hc : n ≤ c) (hl : (dig B32 m).length ≤ 10000000)
    (he : -1000000000 ≤ e ∧ e ≤ 1000000000) (hT : TabW w) :
    Calls Tryd.prog 117 #[.slice p n c, .int .i64 e] w (GivesD w w.heap.size (bare ⟨false, m, e⟩)) := by
  subst hn
  go_enter Tryd.func117, Tryd.ntmps117
  go_wp2_with fail
  refine calls_lay1 (fun W1 hb1 hz1 R => ?_)
  replace hp := hp.past hb1
  replace hT := hT.past hb1
  have hs1 := hb1
  ((with_reducible refine (bareRaw_any false p _ c e m _ hp rfl hc hl he hT).mono ?_))
  generalize bare ⟨false, m, e⟩ = r at *
  rintro e2 w2 ⟨p2, c2, rfl, ho2, hb2⟩
  replace R := R.past hb2
  obtain ⟨R_0, R_1, R_2⟩ := R.e3
  have R_f0 := R.f 0
  have R_f1 := R.f 1
  have R_f2 := R.f 2
  go_wp2_with fail
  clear R_0 R_1 R_2 R_f0 R_f1 R_f2
  obtain ⟨R_0, R_1, R_2⟩ := R.e3
  refine bodyPost_ret (v := .agg #[.bool r.neg, .slice p2 (dig B32 r.m).length c2, .int .i64 r.e]) (by simp [results, Tryd.results117, go_sem, R_0, R_1, R_2]) rfl ?_
  have hz := hs1.size
  exact givesD_close (hs1.trans (hb2.mono hs1.size)) ho2 hz (Nat.le_refl _) (fun h => by have := (ho2.blk_lt h).1; omega)

set_option maxHeartbeats 1000000 in
theorem opp_any (g : Bool) (p : Option Addr) (n c : Nat) (e : Int) (m : Nat) (w : World) (hn : n = (dig B32 m).length) :
    Calls Tryd.prog 83 #[.agg #[.bool g, .slice p n c, .int .i64 e]] w fun en w' => en = .returned (.agg #[.bool (dMinus ⟨g, m, e⟩).neg, .slice p (dig B32 m).length c, .int .i64 e]) ∧ Below w.heap.size w w' := by
  subst hn
  have hz := dig_len_zero B32_two m
  have A := (bx_new w #[.bool g, .slice p (dig B32 m).length c, .int .i64 e] 97).bb3
  cases g
  · by_cases h0 : 0 < (dig B32 m).length
    · have t1 : decide ((0 : Int) < ((dig B32 m).length : Int)) = true := decide_eq_true (by omega)
      have hd : (dMinus ⟨false, m, e⟩).neg = true := by unfold dMinus; simp; (try omega)
      rw [hd]
      clear hd hz
      obtain ⟨A_0, A_1, A_2, A_f0, A_f1, A_f2, A_lt⟩ := A
      go_enter Tryd.func83, Tryd.ntmps83
      go_wp2_with fail
      refine bodyPost_ret (v := .agg #[.bool true, .slice p (dig B32 m).length c, .int .i64 e]) (by simp [results, Tryd.results83, go_sem]) rfl ?_
      exact ⟨rfl, below_lay2 _ _ _⟩
    · have t1 : decide ((0 : Int) < ((dig B32 m).length : Int)) = false := decide_eq_false (by omega)
      have hd : (dMinus ⟨false, m, e⟩).neg = false := by unfold dMinus; simp; (try omega)
      rw [hd]
      clear hd hz
      obtain ⟨A_0, A_1, A_2, A_f0, A_f1, A_f2, A_lt⟩ := A
      go_enter Tryd.func83, Tryd.ntmps83
      go_wp2_with fail
      refine bodyPost_ret (v := .agg #[.bool false, .slice p (dig B32 m).length c, .int .i64 e]) (by simp [results, Tryd.results83, go_sem]) rfl ?_
      exact ⟨rfl, below_lay2 _ _ _⟩
  · have t1 := True.intro
    have hd : (dMinus ⟨true, m, e⟩).neg = false := by unfold dMinus; simp; (try omega)
    rw [hd]
    clear hd hz
    obtain ⟨A_0, A_1, A_2, A_f0, A_f1, A_f2, A_lt⟩ := A
    go_enter Tryd.func83, Tryd.ntmps83
    go_wp2_with fail
    refine bodyPost_ret (v := .agg #[.bool false, .slice p (dig B32 m).length c, .int .i64 e]) (by simp [results, Tryd.results83, go_sem]) rfl ?_
    exact ⟨rfl, below_lay2 _ _ _⟩

end Go.Proofs.YtcipdimogodndaaDoor

namespace Go.Proofs.YtcipdimogodndaaDoor
open Go.RowKit Go.Slip

structure Rw where
  g : Bool
  p : Option Addr
  c : Nat
  m : Nat
  e : Int

def Rw.v (a : Rw) : Dv := ⟨a.g, a.m, a.e⟩

structure InW (w : World) (base : Nat) (a : Rw) : Prop where
  ow : Own w base .u32 91 a.p a.c (dig B32 a.m)
  len : (dig B32 a.m).length ≤ 1000000
  lo : -1000000 ≤ a.e
  hi : a.e ≤ 1000000

theorem InW.past {w w' : World} {base : Nat} {a : Rw} (h : InW w base a) (hb : Below w.heap.size w w') : InW w' base a := ⟨h.ow.past hb, h.len, h.lo, h.hi⟩
theorem InW.drew {w : World} {base : Nat} {a : Rw} (h : InW w base a) : InW w.drew base a := ⟨h.ow.drew, h.len, h.lo, h.hi⟩
theorem InW.mono {w : World} {base base' : Nat} {a : Rw} (h : InW w base a) (hb : base' ≤ base) : InW w base' a := ⟨h.ow.mono hb, h.len, h.lo, h.hi⟩
theorem InW.only {w w' : World} {base k : Nat} {a : Rw} (h : InW w base a) (hb : Only k w w') (hne : a.p.isSome = true → blk a.p ≠ k) : InW w' base a := ⟨h.ow.only hb hne, h.len, h.lo, h.hi⟩

structure El (w : World) (g o : Nat) (a : Rw) : Prop where
  c0 : w.cell? ⟨g, o, none⟩ = some (.bool a.g)
  c1 : w.cell? ⟨g, o + 1, none⟩ = some (.slice a.p (dig B32 a.m).length a.c)
  c2 : w.cell? ⟨g, o + 2, none⟩ = some (.int .i64 a.e)
  lt : g < w.heap.size

theorem El.e3 {w : World} {g o : Nat} {a : Rw} (h : El w g o a) : w.cell? ⟨g, o, none⟩ = some (.bool a.g) ∧ w.cell? ⟨g, o + 1, none⟩ = some (.slice a.p (dig B32 a.m).length a.c) ∧ w.cell? ⟨g, o + 2, none⟩ = some (.int .i64 a.e) := ⟨h.c0, h.c1, h.c2⟩
theorem El.below {w w' : World} {B g o : Nat} {a : Rw} (h : El w g o a) (hb : Below B w w') (hB : g < B) : El w' g o a :=
  ⟨by rw [Below.cell hb hB]; exact h.c0, by rw [Below.cell hb hB]; exact h.c1, by rw [Below.cell hb hB]; exact h.c2, Nat.lt_of_lt_of_le h.lt hb.size⟩
theorem El.past {w w' : World} {g o : Nat} {a : Rw} (h : El w g o a) (hb : Below w.heap.size w w') : El w' g o a := h.below hb h.lt
theorem El.drew {w : World} {g o : Nat} {a : Rw} (h : El w g o a) : El w.drew g o a := ⟨h.c0, h.c1, h.c2, h.lt⟩
theorem El.laid {w : World} {g o : Nat} {a : Rw} (h : El w g o a) (ob : Obj) : El (w.alloc ob) g o a := h.past (below_lay1 _ _)
theorem El.set {w : World} {g o k i : Nat} {a : Rw} {v : Value} (h : El w g o a) (hne : g < k) : El (w.setCell ⟨k, i, none⟩ v) g o a :=
  h.below ((Below.refl k w).setCell (p := ⟨k, i, none⟩) (Nat.le_refl _) v) hne

def Tb (w : World) (b : Nat) (t : TypeId) : Prop := ∃ vs fz, w.heap[b]? = some (.cells vs t fz)
theorem Tb.lt {w : World} {b : Nat} {t : TypeId} (h : Tb w b t) : b < w.heap.size := by
  obtain ⟨_, _, h⟩ := h
  exact (Array.getElem?_eq_some_iff.1 h).1
theorem Tb.past {w w' : World} {b : Nat} {t : TypeId} (h : Tb w b t) (hb : Below w.heap.size w w') : Tb w' b t := by
  have hl := h.lt
  obtain ⟨vs, fz, h⟩ := h
  exact ⟨vs, fz, (hb.block _ hl).trans h⟩
theorem Tb.drew {w : World} {b : Nat} {t : TypeId} (h : Tb w b t) : Tb w.drew b t := h
theorem Tb.only {w w' : World} {b k : Nat} {t : TypeId} (h : Tb w b t) (hb : Only k w w') (hne : b ≠ k) : Tb w' b t := by
  obtain ⟨vs, fz, h⟩ := h
  exact ⟨vs, fz, (hb.block _ hne).trans h⟩
theorem _root_.Go.Slip.Own.ne_tb {w : World} {base b : Nat} {k : IntKind} {e t : TypeId} {p : Option Addr} {c : Nat} {xs : List Nat} (h : Own w base k e p c xs) (hb : Tb w b t) (hne : e ≠ t) (hp : p.isSome = true) : blk p ≠ b := by
  obtain ⟨vs, fz, hb⟩ := hb
  rcases h.2 with ⟨h1, _⟩ | ⟨g, cap, cur, hv, _, hg, _⟩
  · simp only [Value.slice.injEq] at h1
    rw [h1.1] at hp; simp at hp
  · simp only [Value.slice.injEq] at hv
    obtain ⟨rfl, _, rfl⟩ := hv
    intro h2
    have h3 : g = b := h2
    rw [h3, hb] at hg
    simp only [Option.some.injEq, Obj.cells.injEq] at hg
    exact hne hg.2.1.symm
end Go.Proofs.YtcipdimogodndaaDoor

namespace Go.Proofs.YtcipdimogodndaaDoor
open Go.RowKit Go.Slip

theorem own_window {w : World} {base : Nat} {k : IntKind} {e : TypeId} {p : Option Addr} {c : Nat} {X : List Nat} (h : Own w base k e p c X) (j : Nat) (hj : j < X.length) :
    (∀ i, at_ (p.map (·.add j)) i = at_ p (j + i)) ∧ Solid (p.map (·.add j)) (X.length - j) := by
  have h1 := h.rd.solid (by omega)
  refine ⟨fun i => at_map p j i h1.1, ?_⟩
  have := (h.rd.drop j).solid
  rwa [List.length_drop] at this

def LessGives (w : World) (base : Nat) (e : TypeId) (p : Option Addr) (c : Nat) (X ys : List Nat) (j t : Nat) (en : Ending) (w' : World) : Prop :=
  ∃ L br, br ≤ 1 ∧ en = .returned (.bool (decide (0 < br))) ∧ Own w' base .u32 e p c L ∧ w.grownBy w' (some (blk p)) ∧ Below base w w' ∧
    WinOut L X j (ys.length + 1) ∧ val B32 L + B32 ^ j * (t * val B32 ys) = val B32 X + br * B32 ^ (j + (ys.length + 1))

set_option maxHeartbeats 1000000 in
set_option maxRecDepth 100000 in
theorem less_any (p pw q : Option Addr) (c cw n m d : Nat) (X ys : List Nat) (j t base : Nat) (w : World) (hX : Own w base .u32 91 p c X) (hq : Rd w .u32 q ys) (hpw : pw = p.map (·.add j)) (hm : m = ys.length) (hn : n = ys.length + 1)
    (hj : j + ys.length < X.length) (hxl : ∀ x ∈ X, x < B32) (hyl : ∀ x ∈ ys, x < B32) (ht : t < 4294967296) (hap : Apart p q ys) (hps : p.isSome = true) (hl : X.length ≤ 1000000000) :
    Calls Tryd.prog 141 #[.slice pw n cw, .slice q m d, .int .u32 t] w (LessGives w base 91 p c X ys j t) := by
  subst hm hn
  obtain ⟨hat, hsw⟩ := own_window hX j (by omega)
  have hsw := hsw.mono (show ys.length + 1 ≤ X.length - j by omega)
  rw [← hpw] at hat hsw
  clear hpw
  have hsy := hq.solid
  have HXL := Lib.hid hxl
  have HYL := Lib.hid hyl
  have HAT := Lib.hid hat
  have H0 := Lib.hid (LessW.start hxl ys j t)
  have HPS := Lib.hid hps
  clear hxl hyl hat hps
  go_enter Tryd.func141, Tryd.ntmps141
  go_wp2
  go_loopw [7, 8, 14] (fun cv bv iv wr => ∃ (i cr br : Nat) (L : List Nat), iv = .int .i64 i ∧ cv = .int .u64 cr ∧ bv = .int .u32 br ∧ i ≤ ys.length ∧ cr < 4294967296 ∧ br ≤ 1 ∧ Hid (L.length = X.length) ∧ Own wr base .u32 91 p c L ∧ w.grownBy wr (some (blk p)) ∧ Below base w wr ∧ Hid (LessW L X ys j t i cr br))
    (fun _ _ iv _ => ys.length - (intOf iv).toNat)
  case atStart => exact ⟨0, 0, 0, X, rfl, rfl, rfl, Nat.zero_le _, by omega, by omega, rfl, hX, World.grownBy.refl _ _, Below.refl _ _, H0⟩
  case round =>
    obtain ⟨i, cr, br, L, rfl, rfl, rfl, hi, hcr, hbr, hL, hoL, hgL, hbL, HR⟩ := hrel
    have hqL := hq.written hgL hap HPS.out
    have hLd := getD_lt (B := 4294967296) (by omega) L HR.out.1.1 (j + i)
    have hXd := getD_lt (B := 4294967296) (by omega) X HXL.out (j + i)
    have hc1 := hoL.rd.cells (j + i) (by rw [hL.out]; omega)
    rw [← HAT.out i] at hc1
    by_cases hlt : i < ys.length
    · have hc2 := hqL.cells i hlt
      have hyd := getD_lt (B := 4294967296) (by omega) ys HYL.out i
      obtain ⟨hpr, hpr0⟩ := prod_le hyd ht
      obtain ⟨P, hP⟩ : ∃ P, P = dg ys i * t + cr := ⟨_, rfl⟩
      have HS := Lib.hid (HR.out.step (by omega) hXd hbr P hP)
      have et : (dg ys i : Int) * (t : Nat) + (cr : Nat) = (P : Nat) := by rw [hP]; simp
      have hP0 : P < 18446744073709551616 := by omega
      obtain ⟨pl, hpl⟩ : ∃ pl, pl = P % 4294967296 := ⟨_, rfl⟩
      obtain ⟨ph, hph⟩ : ∃ ph, ph = P / 4294967296 := ⟨_, rfl⟩
      have em : (P : Int) % 4294967296 = (pl : Nat) := by omega
      have ed : (P : Int) / 4294967296 = (ph : Nat) := by omega
      have hpl0 : pl < 4294967296 := by omega
      have hph0 : ph < 4294967296 := by omega
      rw [← hpl, ← hph] at HS
      have HC := subB_le (dg L (j + i)) pl br
      clear hP hpl hph
      go_wp2_with (first
        | (go_at_call 126; refine (sub32_any _ _ br _ hLd hpl0 hbr).mono ?_; rintro e w2 ⟨rfl, rfl⟩)
        | (refine wpl_store rfl _ _ _ rfl 91 tyNat _ _ _ _ hoL (j + i) (by rw [hL.out]; omega) _ ?_ (by rw [← HAT.out i]; rfl) rfl ?_; omega; intro w3 ho3 hg3 hb3))
      rw [Int.toNat_natCast] at ho3
      go_roundw
      case rel => exact ⟨i + 1, ph, subB (dg L (j + i)) pl br, _, by go_num, rfl, rfl, hlt, hph0, HC, (by show (List.set _ _ _).length = _; rw [List.length_set]; exact hL.out), ho3, hgL.trans hg3, hbL.trans hb3, HS⟩
      case measure => simp [intOf]; omega
    · obtain rfl : i = ys.length := by omega
      obtain ⟨HW, HV⟩ := HR.out.last (by omega) hXd hbr hcr
      have HW := Lib.hid HW
      have HV := Lib.hid HV
      have HC := subB_le (dg L (j + ys.length)) cr br
      have ec : (cr : Int) % 4294967296 = (cr : Nat) := by omega
      go_wp2_with (first
        | (go_at_call 126; refine (sub32_any _ _ br _ hLd hcr hbr).mono ?_; rintro e w2 ⟨rfl, rfl⟩)
        | (refine wpl_store rfl _ _ _ rfl 91 tyNat _ _ _ _ hoL (j + ys.length) (by rw [hL.out]; omega) _ ?_ (by rw [← HAT.out ys.length]; rfl) rfl ?_; omega; intro w3 ho3 hg3 hb3))
      rw [Int.toNat_natCast] at ho3
      go_ret
      exact ⟨_, subB (dg L (j + ys.length)) cr br, HC, ret_bool (by simp), ho3, hgL.trans hg3, hbL.trans hb3, HW.out, HV.out⟩

def MoreGives (w : World) (base : Nat) (e : TypeId) (p : Option Addr) (c : Nat) (X ys : List Nat) (j : Nat) (en : Ending) (w' : World) : Prop :=
  ∃ L co, en = .returned (.tuple #[]) ∧ Own w' base .u32 e p c L ∧ w.grownBy w' (some (blk p)) ∧ Below base w w' ∧
    WinOut L X j (ys.length + 1) ∧ val B32 L + co * B32 ^ (j + (ys.length + 1)) = val B32 X + B32 ^ j * val B32 ys

set_option maxHeartbeats 1000000 in
set_option maxRecDepth 100000 in
theorem more_any (p pw q : Option Addr) (c cw n m d : Nat) (X ys : List Nat) (j base : Nat) (w : World) (hX : Own w base .u32 91 p c X) (hq : Rd w .u32 q ys) (hpw : pw = p.map (·.add j)) (hm : m = ys.length) (hn : n = ys.length + 1)
    (hj : j + ys.length < X.length) (hxl : ∀ x ∈ X, x < B32) (hyl : ∀ x ∈ ys, x < B32) (hap : Apart p q ys) (hps : p.isSome = true) (hl : X.length ≤ 1000000000) :
    Calls Tryd.prog 142 #[.slice pw n cw, .slice q m d] w (MoreGives w base 91 p c X ys j) := by
  subst hm hn
  obtain ⟨hat, hsw⟩ := own_window hX j (by omega)
  have hsw := hsw.mono (show ys.length + 1 ≤ X.length - j by omega)
  rw [← hpw] at hat hsw
  clear hpw
  have hsy := hq.solid
  have HXL := Lib.hid hxl
  have HYL := Lib.hid hyl
  have HAT := Lib.hid hat
  have H0 := Lib.hid (MoreW.start hxl ys j)
  have HPS := Lib.hid hps
  clear hxl hyl hat hps
  go_enter Tryd.func142, Tryd.ntmps142
  go_wp2
  go_loopw [4, 9] (fun cv iv wr => ∃ (i cr : Nat) (L : List Nat), iv = .int .i64 i ∧ cv = .int .u32 cr ∧ i ≤ ys.length ∧ cr ≤ 1 ∧ Hid (L.length = X.length) ∧ Own wr base .u32 91 p c L ∧ w.grownBy wr (some (blk p)) ∧ Below base w wr ∧ Hid (MoreW L X ys j i cr))
    (fun _ iv _ => ys.length - (intOf iv).toNat)
  case atStart => exact ⟨0, 0, X, rfl, rfl, Nat.zero_le _, by omega, rfl, hX, World.grownBy.refl _ _, Below.refl _ _, H0⟩
  case round =>
    obtain ⟨i, cr, L, rfl, rfl, hi, hcr, hL, hoL, hgL, hbL, HR⟩ := hrel
    have hqL := hq.written hgL hap HPS.out
    have hLd := getD_lt (B := 4294967296) (by omega) L HR.out.1.1 (j + i)
    have hc1 := hoL.rd.cells (j + i) (by rw [hL.out]; omega)
    rw [← HAT.out i] at hc1
    by_cases hlt : i < ys.length
    · have hc2 := hqL.cells i hlt
      have hyd := getD_lt (B := 4294967296) (by omega) ys HYL.out i
      have HS := Lib.hid (HR.out.step (by omega) _ rfl)
      have HC : (dg L (j + i) + dg ys i + cr) / 4294967296 ≤ 1 := by omega
      go_wp2_with (first
        | (go_at_call 120; refine (add32_any _ _ cr _ hLd hyd hcr).mono ?_; rintro e w2 ⟨rfl, rfl⟩)
        | (refine wpl_store rfl _ _ _ rfl 91 tyNat _ _ _ _ hoL (j + i) (by rw [hL.out]; omega) _ ?_ (by rw [← HAT.out i]; rfl) rfl ?_; omega; intro w3 ho3 hg3 hb3))
      have e3 : (((dg L (j + i) : Int) + dg ys i + cr) % 4294967296).toNat = (dg L (j + i) + dg ys i + cr) % 4294967296 := by omega
      rw [e3] at ho3
      go_roundw
      case rel => exact ⟨i + 1, (dg L (j + i) + dg ys i + cr) / 4294967296, _, by go_num, by go_num, hlt, HC, (by show (List.set _ _ _).length = _; rw [List.length_set]; exact hL.out), ho3, hgL.trans hg3, hbL.trans hb3, HS⟩
      case measure => simp [intOf]; omega
    · obtain rfl : i = ys.length := by omega
      obtain ⟨HW, HV⟩ := HR.out.last (by omega)
      have HW := Lib.hid HW
      have HV := Lib.hid HV
      go_wp2_with (refine wpl_store rfl _ _ _ rfl 91 tyNat _ _ _ _ hoL (j + ys.length) (by rw [hL.out]; omega) _ ?_ (by rw [← HAT.out ys.length]; rfl) rfl ?_; omega; intro w3 ho3 hg3 hb3)
      have e3 : (((dg L (j + ys.length) : Int) + cr) % 4294967296).toNat = (dg L (j + ys.length) + cr) % 4294967296 := by omega
      rw [e3] at ho3
      go_end0
      exact ⟨_, _, rfl, ho3, hgL.trans hg3, hbL.trans hb3, HW.out, HV.out⟩

end Go.Proofs.YtcipdimogodndaaDoor

namespace Go.Proofs.YtcipdimogodndaaDoor
open Go.RowKit Go.Slip

theorem lz32_any (x : Nat) (w : World) (h1 : x < 4294967296) :
    Calls Tryd.prog 140 #[.int .u32 x] w fun e w' => e = .returned (.int .i64 ((32 - blen x : Nat) : Int)) ∧ w = w' := by
  have hb : blen x ≤ 32 := (blen_le x 32).2 (by omega)
  go_enter Tryd.func140, Tryd.ntmps140
  go_wp2_with (go_at_call 128; refine (len32_any x _ h1).mono ?_; rintro e w1 ⟨rfl, rfl⟩)
  go_ret
  exact ⟨ret_int (by omega), rfl⟩

theorem _root_.Go.Slip.DivRel.even' {A mm j t r : Nat} {ys U Q L : List Nat} (h : DivRel A (val B32 ys) ys.length U Q (j + 1)) (k : Knuth ys U mm j) (ht : Trial ys U mm j t r) (hj : j < Q.length) (hB : t < 4294967296)
    (hw : WinOut L U j (ys.length + 1)) (hv : val B32 L + B32 ^ j * (t * val B32 ys) = val B32 U + 0 * B32 ^ (j + (ys.length + 1))) : DivRel A (val B32 ys) ys.length L (Q.set j t) j := by
  have e := k.ly
  rw [e] at h hw hv ⊢
  exact h.even k ht hj hB hw hv

theorem _root_.Go.Slip.DivRel.owed' {A mm j t r co : Nat} {ys U Q L M : List Nat} (h : DivRel A (val B32 ys) ys.length U Q (j + 1)) (k : Knuth ys U mm j) (ht : Trial ys U mm j t r) (he : t ≤ val B32 (U.drop j) / val B32 ys + 1) (hj : j < Q.length) (hB : t < 4294967296)
    (hw : WinOut L U j (ys.length + 1)) (hv : val B32 L + B32 ^ j * (t * val B32 ys) = val B32 U + 1 * B32 ^ (j + (ys.length + 1)))
    (hw2 : WinOut M L j (ys.length + 1)) (hv2 : val B32 M + co * B32 ^ (j + (ys.length + 1)) = val B32 L + B32 ^ j * val B32 ys) : 0 < t ∧ DivRel A (val B32 ys) ys.length M (Q.set j (t - 1)) j := by
  have e := k.ly
  rw [e] at h hw hv hw2 hv2 ⊢
  exact h.owed k ht he hj hB hw hv hw2 hv2

theorem owed_pos {mm j t : Nat} {ys U L : List Nat} (k : Knuth ys U mm j) (hw : WinOut L U j (ys.length + 1)) (hv : val B32 L + B32 ^ j * (t * val B32 ys) = val B32 U + 1 * B32 ^ (j + (ys.length + 1))) : 0 < t := by
  have e := k.ly
  rw [e] at hw hv
  have h1 := win_eq hw hv
  have h2 := win_lt hw k.z
  rcases Nat.eq_zero_or_pos t with h0 | h0
  · subst h0
    rw [Nat.zero_mul] at h1
    omega
  · exact h0

def Gives2 (w : World) (e : TypeId) (xs ys : List Nat) (en : Ending) (w' : World) : Prop :=
  ∃ p c q d, en = .returned (.tuple #[.slice p xs.length c, .slice q ys.length d]) ∧ Own w' w.heap.size .u32 e p c xs ∧ Own w' w.heap.size .u32 e q d ys ∧ Below w.heap.size w w' ∧ (p.isSome = true → q.isSome = true → blk p ≠ blk q)

set_option maxHeartbeats 400000 in
set_option maxRecDepth 100000 in
theorem div_less (p q : Option Addr) (n m c d : Nat) (a b : Nat) (w : World) (hp : Rd w .u32 p (dig B32 a)) (hq : Rd w .u32 q (dig B32 b)) (hn : n = (dig B32 a).length) (hm : m = (dig B32 b).length)
    (hl : (dig B32 a).length ≤ 1000000000) (hl2 : (dig B32 b).length ≤ 1000000000) (hab : a < b) :
    Calls Tryd.prog 135 #[.slice p n c, .slice q m d] w (Gives2 w 91 [] (dig B32 a)) := by
  subst hn hm
  have hC : cmpN a b ≤ -1 := by rw [cmpN_lt hab]; omega
  go_enter Tryd.func135, Tryd.ntmps135
  go_wp2_with fail
  refine (cmp_any p q _ _ c d a b _ hp hq rfl rfl (by omega) (by omega)).mono ?_
  rintro e w1 ⟨rfl, hb1⟩
  go_wp2_with fail
  refine (clone_any p _ c _ _ (hp.past hb1) rfl hl).mono ?_
  rintro e w2 ⟨p2, c2, rfl, ho2, hb2⟩
  go_wp2_with fail
  go_ret2
  exact ⟨none, 0, p2, c2, rfl, Own.nil _ _ _ _, ho2.mono hb1.size, hb1.trans (hb2.mono hb1.size), fun h => by simp at h⟩

set_option maxHeartbeats 400000 in
set_option maxRecDepth 100000 in
theorem div_small (p q : Option Addr) (n m c d : Nat) (a b : Nat) (w : World) (hp : Rd w .u32 p (dig B32 a)) (hq : Rd w .u32 q [b]) (hn : n = (dig B32 a).length) (hm : m = 1)
    (hl : (dig B32 a).length ≤ 1000000000) (hb0 : 0 < b) (hb1 : b < 4294967296) (hab : b ≤ a) :
    Calls Tryd.prog 135 #[.slice p n c, .slice q m d] w (Gives2 w 91 (dig B32 (a / b)) (dig B32 (a % b))) := by
  subst hn hm
  have hC : 0 ≤ cmpN a b := by unfold cmpN; rw [if_neg (by omega)]; split <;> omega
  have eb : [b] = dig B32 b := by rw [dig_pos B32_two hb0, Nat.div_eq_of_lt (by unfold B32; omega), dig_zero, Nat.mod_eq_of_lt (by unfold B32; omega)]
  have hr : a % b < 4294967296 := Nat.lt_trans (Nat.mod_lt a hb0) hb1
  obtain ⟨r, hrr⟩ : ∃ r, a % b = r := ⟨_, rfl⟩
  have HR := Lib.hid hrr
  rw [hrr] at hr ⊢
  clear hrr
  have hX := Lib.hid (show ∀ x ∈ [r], x < B32 by simp; unfold B32; omega)
  have hV := Lib.hid (show val B32 [r] = r by simp)
  have hq2 := Lib.hid (show Rd w .u32 q (dig B32 b) by rw [← eb]; exact hq)
  have hl1 := Lib.hid (show 1 = (dig B32 b).length by rw [← eb]; rfl)
  clear eb
  have hsq := hq.solid
  simp only [List.length_singleton] at hsq
  go_enter Tryd.func135, Tryd.ntmps135
  go_wp2_with fail
  refine (cmp_any p q _ 1 c d a b _ hp hq2.out rfl hl1.out (by omega) (by rw [← hl1.out]; omega)).mono ?_
  rintro e w1 ⟨rfl, hb1'⟩
  have hcd : w1.cell? (at_ q 0) = some (.int .u32 (b : Nat)) := (hq.past hb1').cells 0 (by simp)
  go_wp2_with fail
  refine (small_any p _ c a b _ (hp.past hb1') rfl hl hb0 hb1).mono ?_
  rw [HR.out]
  rintro e w2 ⟨p2, c2, rfl, ho2, hb2⟩
  go_wp2_with (refine wpl_build1 rfl _ _ rfl tyNat _ ?_ rfl ?_; omega; intro p3 w3 ho3 hb3 hz3 hp3)
  rw [Int.toNat_natCast] at ho3
  refine (norm_any p3 1 1 [r] _ ho3.rd rfl (by simp) hX.out (by simp)).mono ?_
  rintro e w4 ⟨rfl, rfl⟩
  rw [hV.out]
  go_wp2_with fail
  go_ret2
  have ht := take_dig_len B32_two [r] hX.out
  have ho4 := ho3.take (dig B32 (val B32 [r])).length
  rw [ht, hV.out] at ho4
  have hs2 := hb1'.trans (hb2.mono hb1'.size)
  exact ⟨p2, c2, p3, _, rfl, (ho2.past hb3).mono hb1'.size, ho4.mono hs2.size, hs2.trans (hb3.mono hs2.size), fun h1 h2 => by have := (ho2.blk_lt h1).2; have := (ho4.blk_lt h2).1; omega⟩

end Go.Proofs.YtcipdimogodndaaDoor

namespace Go.Proofs.YtcipdimogodndaaDoor
open Go.RowKit Go.Slip

set_option maxHeartbeats 2000000 in
set_option maxRecDepth 100000 in
theorem div_long (p q : Option Addr) (n m c d : Nat) (a b : Nat) (w : World) (hp : Rd w .u32 p (dig B32 a)) (hq : Rd w .u32 q (dig B32 b)) (hn : n = (dig B32 a).length) (hm : m = (dig B32 b).length)
    (hl : (dig B32 a).length ≤ 100000000) (h2 : 2 ≤ (dig B32 b).length) (hab : b ≤ a) :
    Calls Tryd.prog 135 #[.slice p n c, .slice q m d] w (Gives2 w 91 (dig B32 (a / b)) (dig B32 (a % b))) := by
  subst hn hm
  have hC : 0 ≤ cmpN a b := by unfold cmpN; rw [if_neg (by omega)]; split <;> omega
  have hlb := dig_len_mono B32_two hab
  have hb0 : 0 < b := by
    have := dig_len_zero B32_two b
    omega
  obtain ⟨bt, hbt⟩ : ∃ bt, bt = dg (dig B32 b) ((dig B32 b).length - 1) := ⟨_, rfl⟩
  have hbt1 : bt < 4294967296 := by rw [hbt]; exact getD_lt (B := 4294967296) (by omega) _ (dig_lt B32_two b) _
  have hbt2 : blen bt ≤ 32 := (blen_le bt 32).2 (by omega)
  have hbt3 : 1 ≤ blen bt := (blen_pos bt).2 (by rw [hbt]; exact (blen_dig (B := B32) (s := 32) (by decide) B32_two b hb0).2)
  obtain ⟨s, hs⟩ : ∃ s, s = 32 - blen bt := ⟨_, rfl⟩
  obtain ⟨nl, nt⟩ := norm_top hb0 (s := s) (by rw [← hbt]; omega)
  have hs32 : s < 32 := by omega
  have HS := Lib.hid hs
  have hcb := hq.cells ((dig B32 b).length - 1) (by omega)
  rw [← hbt] at hcb
  have t1 : (((dig B32 b).length : Int) == 1) = false := beq_eq_false_iff_ne.2 (by omega)
  have lu1 := dig_len_mono B32_two (show a ≤ a * 2 ^ s from Nat.le_mul_of_pos_right _ (Nat.pow_pos (by omega)))
  have lu2 : (dig B32 (a * 2 ^ s)).length ≤ (dig B32 a).length + 2 := by
    refine Nat.le_trans (dig_len_mul B32_two _ _) ?_
    have : (dig B32 (2 ^ s)).length ≤ 1 := (dig_len_le B32_two _ 1).2 (Nat.lt_of_lt_of_le (Nat.pow_lt_pow_right (by omega) hs32) (by decide))
    omega
  obtain ⟨ys, hys⟩ : ∃ ys, ys = dig B32 (b * 2 ^ s) := ⟨_, rfl⟩
  obtain ⟨us, hus⟩ : ∃ us, us = dig B32 (a * 2 ^ s) := ⟨_, rfl⟩
  obtain ⟨mm, hmm⟩ : ∃ mm, ys.length = mm + 2 := ⟨ys.length - 2, by rw [hys, nl]; omega⟩
  have HYD := Lib.hid (show ∀ x ∈ ys, x < B32 by rw [hys]; exact dig_lt B32_two _)
  have HYV := Lib.hid (show val B32 ys = b * 2 ^ s by rw [hys]; exact val_dig B32_two _)
  have hbig : 2147483648 ≤ dg ys (mm + 1) := by
    rw [hys, show mm + 1 = (dig B32 b).length - 1 by rw [← nl, ← hys, hmm]; omega]; exact nt
  rw [← hys] at nl
  rw [← hus] at lu1 lu2
  have hyl1 := Nat.le_of_eq nl
  have hyl2 := Nat.le_of_eq nl.symm
  have hU0 : DivRel (a * 2 ^ s) (val B32 ys) ys.length (us ++ [0]) (List.replicate (us.length + 1 - ys.length) 0) (us.length + 1 - ys.length) := by
    have := DivRel.start (A := a * 2 ^ s) (V := val B32 ys) (n := ys.length) (U := us ++ [0]) (fun x hx => by
      rcases List.mem_append.1 hx with h | h
      · rw [hus] at h; exact dig_lt B32_two _ x h
      · simp at h; rw [h]; exact B32_pos) (by simp; omega) (by omega) (by rw [val_snoc, hus, val_dig B32_two]; simp)
      (by simp; rw [hus]; exact (dig_len_le B32_two _ _).1 (Nat.le_refl _))
      (by rw [HYV.out, hys]; exact dig_len_pow B32_two _ (Nat.mul_pos hb0 (Nat.pow_pos (by omega))))
    simpa using this
  have HU0 := Lib.hid hU0
  have HYS := Lib.hid hys
  have HUS := Lib.hid hus
  have HMM := Lib.hid hmm
  obtain ⟨QL, hQL⟩ : ∃ QL, QL = us.length + 1 - ys.length := ⟨_, rfl⟩
  rw [← hQL] at HU0
  have q1 : QL + ys.length ≤ us.length + 1 := by omega
  have q2 : us.length + 1 ≤ QL + ys.length := by omega
  have y2 : 2 ≤ ys.length := by omega
  have HB0 := Lib.hid hb0
  have HBT := Lib.hid hbt
  clear hbt hs nl nt hU0 hys hus hmm hQL hb0
  go_enter Tryd.func135, Tryd.ntmps135
  go_wp2_with fail
  refine (cmp_any p q _ _ c d a b _ hp hq rfl rfl (by omega) (by omega)).mono ?_
  rintro e w1 ⟨rfl, hb1⟩
  have hp1 := hp.past hb1
  have hq1 := hq.past hb1
  have hsq := hq1.solid
  have hcb1 : w1.cell? (at_ q ((dig B32 b).length - 1)) = some (.int .u32 (bt : Nat)) := by
    have h := hq1.cells ((dig B32 b).length - 1) (by omega)
    rw [← HBT.out] at h; exact h
  go_wp2_with fail
  refine (lz32_any bt _ hbt1).mono ?_
  rintro e w2 ⟨rfl, rfl⟩
  rw [← HS.out]
  go_wp2_with fail
  refine (shl_any q _ d b s _ hq1 rfl (by omega) (by omega)).mono ?_
  rw [← HYS.out]
  rintro e w3 ⟨pv, cv, rfl, hov, hb3⟩
  have hs3 := hb1.trans (hb3.mono hb1.size)
  go_wp2_with fail
  refine (shl_any p _ c a s _ (hp1.past hb3) rfl (by omega) (by omega)).mono ?_
  rw [← HUS.out]
  rintro e w4 ⟨pu0, cu0, rfl, hou0, hb4⟩
  have hs4 := hs3.trans (hb4.mono hs3.size)
  go_wp2_with (first
    | (refine wpl_build1 rfl _ _ rfl tyNat 0 (by omega) rfl ?_; intro p5 w5 ho5 hb5 hz5 hp5)
    | (at_builtin; refine wpl_append rfl _ _ _ rfl tyNat w3.heap.size _ _ _ _ (hou0.past hb5) rfl _ _ _ _ ho5.rd rfl rfl rfl ?_ ?_ ?_; (simp; omega); (have := hb5.size; have := hb4.size; omega); intro pu cu w6 hou hg6 hb6 hn6))
  have hs5 := hs4.trans (hb5.mono hs4.size)
  have hs6 := hs5.trans (hb6.mono hs3.size)
  have hvl := hov.rd.lt (by omega)
  have hsz3 := hs3.size
  have hvr6 := ((hov.rd.past hb4).past hb5).below hb6 (fun _ => hvl)
  have hus6 := hou.solid
  rw [List.length_append, List.length_singleton] at hus6
  clear hb1 hb3 hb4 hb5 hb6 hs3 hs4 hs5 hp1 hq1 hcb hcb1 hsq t1 hn6 hg6 hou0 ho5 hz5 hp5
  go_loopw [10] (fun uv wr => uv = .slice pu (us.length + 1) cu ∧ w6 = wr) (fun _ _ => 0)
  case atStart => exact ⟨rfl, rfl⟩
  case round =>
    obtain ⟨rfl, rfl⟩ := hrel
    go_wp2_with (refine wpl_make rfl _ _ _ rfl tyNat .i64 .i64 QL _ _ rfl rfl ?_ ?_ ?_ ?_; omega; omega; omega; intro pq cq w7 hoq hb7 hz7)
    obtain ⟨top, htop⟩ : ∃ top, dg ys (ys.length - 1) = top := ⟨_, rfl⟩
    obtain ⟨nx, hnx⟩ : ∃ nx, dg ys (ys.length - 2) = nx := ⟨_, rfl⟩
    have hvr7 := hvr6.past hb7
    have hc1 := hvr7.cells (ys.length - 1) (by omega)
    have hc2 := hvr7.cells (ys.length - 2) (by omega)
    rw [htop] at hc1
    rw [hnx] at hc2
    have hvs := hvr7.solid
    have htop1 : top < 4294967296 := by rw [← htop]; exact getD_lt (B := 4294967296) (by omega) ys HYD.out _
    have hnx1 : nx < 4294967296 := by rw [← hnx]; exact getD_lt (B := 4294967296) (by omega) ys HYD.out _
    have htop2 : 2147483648 ≤ top := by rw [← htop, HMM.out]; exact hbig
    have HTOP := Lib.hid htop
    have HNX := Lib.hid hnx
    clear htop hnx hbig
    have b1 : (0 : Int) ≤ (ys.length : Int) - 1 := by omega
    have b2 : (ys.length : Int) - 1 < (ys.length : Int) := by omega
    have b3 : (0 : Int) ≤ (ys.length : Int) - 2 := by omega
    have b4 : (ys.length : Int) - 2 < (ys.length : Int) := by omega
    have e1 : IntKind.i64.wrap ((ys.length : Int) - 1) = (ys.length : Int) - 1 := IntWalk.i64_in _ (by omega)
    have e2 : IntKind.i64.wrap ((ys.length : Int) - 2) = (ys.length : Int) - 2 := IntWalk.i64_in _ (by omega)
    have e3 : ((ys.length : Int) - 1).toNat = ys.length - 1 := by omega
    have e4 : ((ys.length : Int) - 2).toNat = ys.length - 2 := by omega
    have e5 : IntKind.u64.wrap (top : Int) = (top : Int) := IntWalk.u64_in _ (by omega)
    have e6 : IntKind.u64.wrap (nx : Int) = (nx : Int) := IntWalk.u64_in _ (by omega)
    go_wp2_with fail
    go_quiet (fail)
    clear b1 b2 b3 b4 e1 e2 e3 e4 e5 e6 hc1 hc2
    have hsvu : w3.heap.size ≤ w6.heap.size := by
      have := hou.rd.lt (by simp)
      have := (hou.blk_lt (hou.rd.solid (by simp)).1).1
      omega
    have hou7 := hou.past hb7
    have hups := (hou.rd.solid (by simp)).1
    have hbu := hou.blk_lt hups
    have hvu : blk pv ≠ blk pu := by omega
    have hqu : pq.isSome = true → some (blk pq) ≠ some (blk pu) := fun h => by
      have := hoq.blk_lt h
      simp only [ne_eq, Option.some.injEq]; omega
    have hqv : pq.isSome = true → blk pq ≠ blk pv := fun h => by
      have := hoq.blk_lt h
      omega
    have HVU := Lib.hid hvu
    have HQU := Lib.hid hqu
    have HQV := Lib.hid hqv
    have HUPS := Lib.hid hups
    have hs7 := hs6.trans (hb7.mono hs6.size)
    have hsz6 := hs6.size
    clear hvu hqu hqv hups hbu hsvu
    have hcu := hou.le_cap
    rw [List.length_append, List.length_singleton] at hcu
    go_wp2_with fail
    go_loopw [15] (fun jv wr => ∃ (k : Nat) (U Q : List Nat), jv = .int .i64 ((k : Int) - 1) ∧ k ≤ QL ∧ Hid (U.length = us.length + 1) ∧ Hid (Q.length = QL) ∧ Own wr w3.heap.size .u32 91 pu cu U ∧
        Own wr w6.heap.size .u32 91 pq cq Q ∧ Below w.heap.size w wr ∧ Rd wr .u32 pv ys ∧ Hid (DivRel (a * 2 ^ s) (val B32 ys) ys.length U Q k))
      (fun jv _ => (intOf jv + 1).toNat)
    case atStart => exact ⟨QL, _, _, by go_num, Nat.le_refl _, (by show (us ++ [Int.toNat 0]).length = us.length + 1; simp), List.length_replicate, hou7.drewN _, hoq.drewN _, below_drewN hs7 _, hvr7.drewN _, HU0⟩
    case round =>
      obtain ⟨k, U, Q, rfl, hk, hUl, hQl, hoU, hoQ, hbL, hrv, HR⟩ := hrel
      by_cases h0 : 0 < k
      · obtain ⟨j, rfl⟩ : ∃ j, k = j + 1 := ⟨k - 1, by omega⟩
        have ej : ((j + 1 : Nat) : Int) - 1 = j := by omega
        rw [ej]
        have KN : Knuth ys U mm j := ⟨HYD.out, HR.out.dU, HMM.out, by rw [show mm + 1 = ys.length - 1 by rw [HMM.out]; omega, HTOP.out]; exact htop2, HR.out.win⟩
        have KN := Lib.hid KN
        obtain ⟨u2, hu2⟩ : ∃ u2, dg U (j + ys.length) = u2 := ⟨_, rfl⟩
        obtain ⟨u1, hu1⟩ : ∃ u1, dg U (j + ys.length - 1) = u1 := ⟨_, rfl⟩
        obtain ⟨u0, hu0⟩ : ∃ u0, dg U (j + ys.length - 2) = u0 := ⟨_, rfl⟩
        have hc2 := hoU.rd.cells (j + ys.length) (by rw [hUl.out]; omega)
        have hc1 := hoU.rd.cells (j + ys.length - 1) (by rw [hUl.out]; omega)
        have hc0 := hoU.rd.cells (j + ys.length - 2) (by rw [hUl.out]; omega)
        have hsU := hoU.solid
        rw [hUl.out] at hsU
        rw [hu2] at hc2
        rw [hu1] at hc1
        rw [hu0] at hc0
        have hu2l : u2 < 4294967296 := by rw [← hu2]; exact getD_lt (B := 4294967296) (by omega) U HR.out.dU _
        have hu1l : u1 < 4294967296 := by rw [← hu1]; exact getD_lt (B := 4294967296) (by omega) U HR.out.dU _
        have hu0l : u0 < 4294967296 := by rw [← hu0]; exact getD_lt (B := 4294967296) (by omega) U HR.out.dU _
        have HU2 := Lib.hid hu2
        have HU1 := Lib.hid hu1
        have HUZ := Lib.hid hu0
        clear hu2 hu1 hu0
        obtain ⟨two, htwo⟩ : ∃ two, two = u2 * 4294967296 + u1 := ⟨_, rfl⟩
        have HT0 : Hid (Trial ys U mm j (two / top) (two % top)) := by
          have := KN.out.start two (by rw [htwo, ← HU2.out, ← HU1.out, HMM.out]; rfl)
          rw [show mm + 1 = ys.length - 1 by rw [HMM.out]; omega, HTOP.out] at this
          exact this
        have HT0 := Lib.hid HT0.out
        have hor := or32 u2 u1 hu2l hu1l
        have etw : (u2 : Int) * 4294967296 + (u1 : Nat) = (two : Nat) := by omega
        rw [etw] at hor
        have htwl : two < 18446744073709551616 := by omega
        have HTW := Lib.hid htwo
        clear etw htwo
        have b0 : (0 : Int) ≤ (j : Int) + ys.length := by omega
        have b1 : (0 : Int) ≤ (j : Int) + ys.length - 1 := by omega
        have b2 : (j : Int) + ys.length < (us.length : Int) + 1 := by omega
        have b3 : (j : Int) + ys.length - 1 < (us.length : Int) + 1 := by omega
        have e1 : IntKind.i64.wrap ((j : Int) + ys.length) = (j : Int) + ys.length := IntWalk.i64_in _ (by omega)
        have e2 : IntKind.i64.wrap ((j : Int) + ys.length - 1) = (j : Int) + ys.length - 1 := IntWalk.i64_in _ (by omega)
        have e3 : ((j : Int) + ys.length).toNat = j + ys.length := by omega
        have e4 : ((j : Int) + ys.length - 1).toNat = j + ys.length - 1 := by omega
        have e5 : IntKind.u64.wrap (u2 : Int) = (u2 : Int) := IntWalk.u64_in _ (by omega)
        have e6 : IntKind.u64.wrap (u1 : Int) = (u1 : Int) := IntWalk.u64_in _ (by omega)
        have e7 : IntKind.u64.wrap ((u2 : Int) * 4294967296) = (u2 : Int) * 4294967296 := IntWalk.u64_in _ (by omega)
        go_wp2_with fail
        go_quiet (fail)
        obtain ⟨n1, rfl⟩ : ∃ n1, n1 = nq := ⟨_, rfl⟩
        go_wp2_with fail
        clear b0 b1 b2 b3 e1 e2 e3 e4 e5 e6 e7 hor
        obtain ⟨t0, ht0⟩ : ∃ t0, t0 = two / top := ⟨_, rfl⟩
        obtain ⟨r0, hr0⟩ : ∃ r0, r0 = two % top := ⟨_, rfl⟩
        rw [← ht0, ← hr0] at HT0
        have hr0l : r0 < 4294967296 := by rw [hr0]; exact Nat.lt_trans (Nat.mod_lt _ (by omega)) htop1
        have ht0l : t0 < 18446744073709551616 := by rw [ht0]; exact Nat.lt_of_le_of_lt (Nat.div_le_self _ _) htwl
        have e1 : (two : Int) / (top : Int) = (t0 : Nat) := by rw [ht0]; rfl
        have e2 : (two : Int).tmod (top : Int) = (r0 : Nat) := by rw [hr0, Int.tmod_eq_emod_of_nonneg (by omega)]; rfl
        have e3 : IntKind.u64.wrap (t0 : Int) = (t0 : Int) := IntWalk.u64_in _ (by omega)
        have e4 : ¬ top = 0 := by omega
        have e5 : IntKind.u64.wrap (r0 : Int) = (r0 : Int) := IntWalk.u64_in _ (by omega)
        clear ht0 hr0
        go_quiet (fail)
        clear e1 e2 e3 e4 e5
        have hoU8 := (hoU.drewN n1).drewN nq
        have hoQ8 := (hoQ.drewN n1).drewN nq
        have hrv8 := (hrv.drewN n1).drewN nq
        have hbL8 := below_drewN (below_drewN hbL n1) nq
        have hc8 := hoU8.rd.cells (j + ys.length - 2) (by rw [hUl.out]; omega)
        rw [HUZ.out] at hc8
        generalize (wr.drewN n1).drewN nq = w8 at *
        clear hc0 hc1 hc2 hoU hoQ hrv hbL
        have hju : j + ys.length + 1 ≤ us.length + 1 := by omega
        have hsQ := hoQ8.solid
        rw [hQl.out] at hsQ
        have hjc : j + ys.length + 1 ≤ cu := by omega
        clear ej
        have HXT : Hid (dg ys (mm + 1) = top) := by show dg ys (mm + 1) = top; rw [show mm + 1 = ys.length - 1 by rw [HMM.out]; omega]; exact HTOP.out
        have HXN : Hid (dg ys mm = nx) := by show dg ys mm = nx; rw [show mm = ys.length - 2 by rw [HMM.out]; omega]; exact HNX.out
        have HXU : Hid (dg U (j + mm) = u0) := by show dg U (j + mm) = u0; rw [show j + mm = j + ys.length - 2 by rw [HMM.out]; omega]; exact HUZ.out
        go_wp2_with fail
        go_loop [17, 18] (fun tv rv => ∃ (t r : Nat), tv = .int .u64 t ∧ rv = .int .u64 r ∧ r < 4294967296 ∧ t ≤ 4294967298 ∧ Hid (Trial ys U mm j t r)) (fun tv _ => (intOf tv).toNat)
        case atStart => exact ⟨t0, r0, rfl, rfl, hr0l, HT0.out.bound KN.out, HT0⟩
        case round =>
          obtain ⟨t, r, rfl, rfl, hrl, htl, HT⟩ := hrel
          by_cases hA : 4294967296 ≤ t
          · obtain ⟨hd1, hd2⟩ := HT.out.down KN.out (.inl hA)
            obtain ⟨u, rfl⟩ : ∃ u, t = u + 1 := ⟨t - 1, by omega⟩
            rw [HXT.out, Nat.add_sub_cancel] at hd2
            have HT' := Lib.hid hd2
            have dA : decide ((4294967296 : Int) ≤ (u : Int) + 1) = true := decide_eq_true (by omega)
            clear hd2 hA
            by_cases hbk : 4294967296 ≤ r + top
            · obtain ⟨ht1, ht2⟩ := HT'.out.breaks KN.out hbk
              have HTE := Lib.hid (HT'.out.exit KN.out ht1 ht2)
              have ht1 : u < 4294967296 := ht1
              have dB : decide ((4294967296 : Int) ≤ (r : Int) + (top : Int)) = true := decide_eq_true (by omega)
              clear hbk
              go_wp2_with fail
              ((with_reducible refine (less_any pu _ pv cu _ _ _ _ U ys j u w3.heap.size _ hoU8 hrv8 rfl rfl ?_ ?_ ?_ ?_ ?_ ?_ ?_ ?_).mono ?_))
              · omega
              · rw [hUl.out]; omega
              · exact HR.out.dU
              · exact HYD.out
              · exact ht1
              · exact fun _ _ => HVU.out.symm
              · exact HUPS.out
              · rw [hUl.out]; omega
              rintro e w9 ⟨L, br, hbr, rfl, hoL, hgL, hbL9, HW, HV⟩
              have HW := Lib.hid HW
              have HV := Lib.hid HV
              have hoQ9 := hoQ8.grown hgL HQU.out
              have hrv9 := hrv8.written hgL (fun _ _ => HVU.out.symm) HUPS.out
              have hb9 := hbL8.trans (hbL9.mono hsz3)
              have hjQ : j < Q.length := by rw [hQl.out]; omega
              have hqs := Lib.hid (hoQ9.rd.solid (by omega)).1
              have hLl := Lib.hid (show L.length = us.length + 1 by rw [HW.out.2.1]; exact hUl.out)
              rcases (show br = 0 ∨ br = 1 by omega) with rfl | rfl
              · have HS := Lib.hid (HR.out.even' KN.out HT'.out hjQ ht1 HW.out HV.out)
                go_wp2_with (refine wpl_store rfl _ _ _ rfl 91 tyNat _ _ _ _ hoQ9 j hjQ _ ?_ rfl rfl ?_; omega; intro w10 ho10 hg10 hb10)
                rw [Int.toNat_natCast] at ho10
                go_roundw
                case rel => exact ⟨j, L, _, rfl, by omega, hLl, (by show (List.set _ _ _).length = _; rw [List.length_set]; exact hQl.out), hoL.grown hg10 (fun _ => (HQU.out hqs.out).symm), ho10, hb9.trans (hb10.mono hsz6), hrv9.written hg10 (fun _ h => HQV.out h) hqs.out, HS⟩
                case measure => first | (simp [intOf]; done) | (simp [intOf]; omega)
              · have htp : 0 < u := owed_pos KN.out HW.out HV.out
                obtain ⟨v, rfl⟩ : ∃ v, u = v + 1 := ⟨u - 1, by omega⟩
                go_wp2_with fail
                ((with_reducible refine (more_any pu _ pv cu _ _ _ _ L ys j w3.heap.size _ hoL hrv9 rfl rfl ?_ ?_ ?_ ?_ ?_ ?_ ?_).mono ?_))
                · omega
                · rw [hLl.out]; omega
                · exact HW.out.1
                · exact HYD.out
                · exact fun _ _ => HVU.out.symm
                · exact HUPS.out
                · rw [hLl.out]; omega
                rintro e w10 ⟨M, co, rfl, hoM, hgM, hbM, HW2, HV2⟩
                obtain ⟨_, HS⟩ := HR.out.owed' KN.out HT'.out HTE.out hjQ ht1 HW.out HV.out HW2 HV2
                rw [Nat.add_sub_cancel] at HS
                have HS := Lib.hid HS
                have hMl := Lib.hid (show M.length = us.length + 1 by rw [HW2.2.1]; exact hLl.out)
                have hoQ10 := hoQ9.grown hgM HQU.out
                have hrv10 := hrv9.written hgM (fun _ _ => HVU.out.symm) HUPS.out
                have hb10 := hb9.trans (hbM.mono hsz3)
                clear HW2 HV2
                go_wp2_with (refine wpl_store rfl _ _ _ rfl 91 tyNat _ _ _ _ hoQ10 j hjQ _ ?_ rfl rfl ?_; omega; intro w11 ho11 hg11 hb11)
                rw [Int.toNat_natCast] at ho11
                go_roundw
                case rel => exact ⟨j, M, _, rfl, by omega, hMl, (by show (List.set _ _ _).length = _; rw [List.length_set]; exact hQl.out), hoM.grown hg11 (fun _ => (HQU.out hqs.out).symm), ho11, hb10.trans (hb11.mono hsz6), hrv10.written hg11 (fun _ h => HQV.out h) hqs.out, HS⟩
                case measure => first | (simp [intOf]; done) | (simp [intOf]; omega)
            · have dB : decide ((4294967296 : Int) ≤ (r : Int) + (top : Int)) = false := decide_eq_false (by omega)
              have hbk' : r + top < 4294967296 := by omega
              clear hbk
              go_wp2_with fail
              go_round
              case rel => exact ⟨u, r + top, by go_num, by go_num, by omega, by omega, HT'⟩
              case measure => first | (simp [intOf]; done) | (simp [intOf]; omega)
          · have htlt : t < 4294967296 := by omega
            obtain ⟨tn, htn⟩ : ∃ tn, tn = t * nx := ⟨_, rfl⟩
            obtain ⟨rr, hrr⟩ : ∃ rr, rr = r * 4294967296 + u0 := ⟨_, rfl⟩
            have etn : (t : Int) * (nx : Int) = (tn : Nat) := by rw [htn]; simp
            obtain ⟨hpr, hpr0⟩ := prod_le htlt hnx1
            rw [etn] at hpr hpr0
            have hor := or32 r u0 hrl hu0l
            have etw : (r : Int) * 4294967296 + (u0 : Nat) = (rr : Nat) := by omega
            rw [etw] at hor
            have dA : decide ((4294967296 : Int) ≤ (t : Int)) = false := decide_eq_false (by omega)
            have HTL := Lib.hid htlt
            clear etw hA htlt
            by_cases hB : rr < tn
            · obtain ⟨hd1, hd2⟩ := HT.out.down KN.out (.inr (by rw [HXN.out, HXU.out, ← htn]; show r * 4294967296 + u0 < tn; omega))
              rw [HXT.out] at hd2
              obtain ⟨u, hu⟩ : ∃ u, u = t - 1 := ⟨_, rfl⟩
              rw [← hu] at hd2
              have HT' := Lib.hid hd2
              have e6 : (t : Int) - 1 = (u : Int) := by omega
              have hut : u < t := by omega
              clear hd2 htn hrr hu
              by_cases hbk : 4294967296 ≤ r + top
              · obtain ⟨ht1, ht2⟩ := HT'.out.breaks KN.out hbk
                have HTE := Lib.hid (HT'.out.exit KN.out ht1 ht2)
                have ht1 : u < 4294967296 := ht1
                have dB : decide ((4294967296 : Int) ≤ (r : Int) + (top : Int)) = true := decide_eq_true (by omega)
                clear hbk
                go_wp2_with fail
                ((with_reducible refine (less_any pu _ pv cu _ _ _ _ U ys j u w3.heap.size _ hoU8 hrv8 rfl rfl ?_ ?_ ?_ ?_ ?_ ?_ ?_ ?_).mono ?_))
                · omega
                · rw [hUl.out]; omega
                · exact HR.out.dU
                · exact HYD.out
                · exact ht1
                · exact fun _ _ => HVU.out.symm
                · exact HUPS.out
                · rw [hUl.out]; omega
                rintro e w9 ⟨L, br, hbr, rfl, hoL, hgL, hbL9, HW, HV⟩
                have HW := Lib.hid HW
                have HV := Lib.hid HV
                have hoQ9 := hoQ8.grown hgL HQU.out
                have hrv9 := hrv8.written hgL (fun _ _ => HVU.out.symm) HUPS.out
                have hb9 := hbL8.trans (hbL9.mono hsz3)
                have hjQ : j < Q.length := by rw [hQl.out]; omega
                have hqs := Lib.hid (hoQ9.rd.solid (by omega)).1
                have hLl := Lib.hid (show L.length = us.length + 1 by rw [HW.out.2.1]; exact hUl.out)
                rcases (show br = 0 ∨ br = 1 by omega) with rfl | rfl
                · have HS := Lib.hid (HR.out.even' KN.out HT'.out hjQ ht1 HW.out HV.out)
                  go_wp2_with (refine wpl_store rfl _ _ _ rfl 91 tyNat _ _ _ _ hoQ9 j hjQ _ ?_ rfl rfl ?_; omega; intro w10 ho10 hg10 hb10)
                  rw [Int.toNat_natCast] at ho10
                  go_roundw
                  case rel => exact ⟨j, L, _, rfl, by omega, hLl, (by show (List.set _ _ _).length = _; rw [List.length_set]; exact hQl.out), hoL.grown hg10 (fun _ => (HQU.out hqs.out).symm), ho10, hb9.trans (hb10.mono hsz6), hrv9.written hg10 (fun _ h => HQV.out h) hqs.out, HS⟩
                  case measure => first | (simp [intOf]; done) | (simp [intOf]; omega)
                · have htp : 0 < u := owed_pos KN.out HW.out HV.out
                  obtain ⟨v, rfl⟩ : ∃ v, u = v + 1 := ⟨u - 1, by omega⟩
                  go_wp2_with fail
                  ((with_reducible refine (more_any pu _ pv cu _ _ _ _ L ys j w3.heap.size _ hoL hrv9 rfl rfl ?_ ?_ ?_ ?_ ?_ ?_ ?_).mono ?_))
                  · omega
                  · rw [hLl.out]; omega
                  · exact HW.out.1
                  · exact HYD.out
                  · exact fun _ _ => HVU.out.symm
                  · exact HUPS.out
                  · rw [hLl.out]; omega
                  rintro e w10 ⟨M, co, rfl, hoM, hgM, hbM, HW2, HV2⟩
                  obtain ⟨_, HS⟩ := HR.out.owed' KN.out HT'.out HTE.out hjQ ht1 HW.out HV.out HW2 HV2
                  rw [Nat.add_sub_cancel] at HS
                  have HS := Lib.hid HS
                  have hMl := Lib.hid (show M.length = us.length + 1 by rw [HW2.2.1]; exact hLl.out)
                  have hoQ10 := hoQ9.grown hgM HQU.out
                  have hrv10 := hrv9.written hgM (fun _ _ => HVU.out.symm) HUPS.out
                  have hb10 := hb9.trans (hbM.mono hsz3)
                  clear HW2 HV2
                  go_wp2_with (refine wpl_store rfl _ _ _ rfl 91 tyNat _ _ _ _ hoQ10 j hjQ _ ?_ rfl rfl ?_; omega; intro w11 ho11 hg11 hb11)
                  rw [Int.toNat_natCast] at ho11
                  go_roundw
                  case rel => exact ⟨j, M, _, rfl, by omega, hMl, (by show (List.set _ _ _).length = _; rw [List.length_set]; exact hQl.out), hoM.grown hg11 (fun _ => (HQU.out hqs.out).symm), ho11, hb10.trans (hb11.mono hsz6), hrv10.written hg11 (fun _ h => HQV.out h) hqs.out, HS⟩
                  case measure => first | (simp [intOf]; done) | (simp [intOf]; omega)
              · have dB : decide ((4294967296 : Int) ≤ (r : Int) + (top : Int)) = false := decide_eq_false (by omega)
                have hbk' : r + top < 4294967296 := by omega
                clear hbk
                go_wp2_with fail
                go_round
                case rel => exact ⟨u, r + top, by go_num, by go_num, by omega, by omega, HT'⟩
                case measure => first | (simp [intOf]; done) | (simp [intOf]; omega)
            · have HTE := Lib.hid (HT.out.exit KN.out HTL.out (by rw [HXN.out, HXU.out, ← htn]; show tn ≤ r * 4294967296 + u0; omega))
              have em : (t : Int) % 4294967296 = (t : Int) := by have := HTL.out; omega
              clear htn hrr
              have ht1 := HTL.out
              have ht1 := Lib.hid ht1
              go_wp2_with fail
              have ht1 := ht1.out
              clear em dA hor etn
              ((with_reducible refine (less_any pu _ pv cu _ _ _ _ U ys j t w3.heap.size _ hoU8 hrv8 rfl rfl ?_ ?_ ?_ ?_ ?_ ?_ ?_ ?_).mono ?_))
              · omega
              · rw [hUl.out]; omega
              · exact HR.out.dU
              · exact HYD.out
              · exact ht1
              · exact fun _ _ => HVU.out.symm
              · exact HUPS.out
              · rw [hUl.out]; omega
              rintro e w9 ⟨L, br, hbr, rfl, hoL, hgL, hbL9, HW, HV⟩
              have HW := Lib.hid HW
              have HV := Lib.hid HV
              have hoQ9 := hoQ8.grown hgL HQU.out
              have hrv9 := hrv8.written hgL (fun _ _ => HVU.out.symm) HUPS.out
              have hb9 := hbL8.trans (hbL9.mono hsz3)
              have hjQ : j < Q.length := by rw [hQl.out]; omega
              have hqs := Lib.hid (hoQ9.rd.solid (by omega)).1
              have hLl := Lib.hid (show L.length = us.length + 1 by rw [HW.out.2.1]; exact hUl.out)
              rcases (show br = 0 ∨ br = 1 by omega) with rfl | rfl
              · have HS := Lib.hid (HR.out.even' KN.out HT.out hjQ ht1 HW.out HV.out)
                go_wp2_with (refine wpl_store rfl _ _ _ rfl 91 tyNat _ _ _ _ hoQ9 j hjQ _ ?_ rfl rfl ?_; omega; intro w10 ho10 hg10 hb10)
                rw [Int.toNat_natCast] at ho10
                go_roundw
                case rel => exact ⟨j, L, _, rfl, by omega, hLl, (by show (List.set _ _ _).length = _; rw [List.length_set]; exact hQl.out), hoL.grown hg10 (fun _ => (HQU.out hqs.out).symm), ho10, hb9.trans (hb10.mono hsz6), hrv9.written hg10 (fun _ h => HQV.out h) hqs.out, HS⟩
                case measure => first | (simp [intOf]; done) | (simp [intOf]; omega)
              · have htp : 0 < t := owed_pos KN.out HW.out HV.out
                obtain ⟨v, rfl⟩ : ∃ v, t = v + 1 := ⟨t - 1, by omega⟩
                go_wp2_with fail
                ((with_reducible refine (more_any pu _ pv cu _ _ _ _ L ys j w3.heap.size _ hoL hrv9 rfl rfl ?_ ?_ ?_ ?_ ?_ ?_ ?_).mono ?_))
                · omega
                · rw [hLl.out]; omega
                · exact HW.out.1
                · exact HYD.out
                · exact fun _ _ => HVU.out.symm
                · exact HUPS.out
                · rw [hLl.out]; omega
                rintro e w10 ⟨M, co, rfl, hoM, hgM, hbM, HW2, HV2⟩
                obtain ⟨_, HS⟩ := HR.out.owed' KN.out HT.out HTE.out hjQ ht1 HW.out HV.out HW2 HV2
                rw [Nat.add_sub_cancel] at HS
                have HS := Lib.hid HS
                have hMl := Lib.hid (show M.length = us.length + 1 by rw [HW2.2.1]; exact hLl.out)
                have hoQ10 := hoQ9.grown hgM HQU.out
                have hrv10 := hrv9.written hgM (fun _ _ => HVU.out.symm) HUPS.out
                have hb10 := hb9.trans (hbM.mono hsz3)
                clear HW2 HV2
                go_wp2_with (refine wpl_store rfl _ _ _ rfl 91 tyNat _ _ _ _ hoQ10 j hjQ _ ?_ rfl rfl ?_; omega; intro w11 ho11 hg11 hb11)
                rw [Int.toNat_natCast] at ho11
                go_roundw
                case rel => exact ⟨j, M, _, rfl, by omega, hMl, (by show (List.set _ _ _).length = _; rw [List.length_set]; exact hQl.out), hoM.grown hg11 (fun _ => (HQU.out hqs.out).symm), ho11, hb10.trans (hb11.mono hsz6), hrv10.written hg11 (fun _ h => HQV.out h) hqs.out, HS⟩
                case measure => first | (simp [intOf]; done) | (simp [intOf]; omega)
      · obtain rfl : k = 0 := by omega
        obtain ⟨hd1, hd2⟩ := HR.out.done
        rw [HYV.out, Nat.mul_div_mul_right _ _ (Nat.pow_pos (by omega))] at hd1
        rw [HYV.out, Nat.mul_mod_mul_right] at hd2
        have HD1 := Lib.hid hd1
        have HD2 := Lib.hid hd2
        have HM := Lib.hid (show a % b * 2 ^ s / 2 ^ s = a % b from Nat.mul_div_cancel _ (Nat.pow_pos (by omega)))
        have hTQ := hoQ.take (dig B32 (val B32 Q)).length
        rw [take_dig_len B32_two Q HR.out.dQ, hd1] at hTQ
        have hTU := hoU.take (dig B32 (val B32 U)).length
        rw [take_dig_len B32_two U HR.out.dU, hd2] at hTU
        have hlU := dig_val_le B32_two U HR.out.dU
        rw [hd2, hUl.out] at hlU
        clear hd1 hd2
        go_wp2_with fail
        refine (norm_any pq QL cq Q _ hoQ.rd hQl.out.symm hoQ.le_cap HR.out.dQ (by rw [hQl.out]; omega)).mono ?_
        rintro e w9 ⟨rfl, rfl⟩
        rw [HD1.out]
        go_wp2_with fail
        refine (norm_any pu (us.length + 1) cu U _ hoU.rd hUl.out.symm hoU.le_cap HR.out.dU (by rw [hUl.out]; omega)).mono ?_
        rintro e w10 ⟨rfl, rfl⟩
        rw [HD2.out]
        go_wp2_with fail
        refine (shr_any pu _ cu (a % b * 2 ^ s) s _ hTU.rd rfl hTU.le_cap (by omega) (by omega)).mono ?_
        rw [HM.out]
        rintro e w11 ⟨p9, c9, rfl, ho9, hb9⟩
        go_wp2_with fail
        go_ret2
        exact ⟨pq, cq, p9, c9, rfl, (hTQ.past hb9).mono hsz6, ho9.mono hbL.size, hbL.trans (hb9.mono hbL.size), fun h1 h2 => by have := (hTQ.blk_lt h1).2; have := (ho9.blk_lt h2).1; omega⟩

theorem limbDiv_any (p q : Option Addr) (n m c d : Nat) (a b : Nat) (w : World) (hp : Rd w .u32 p (dig B32 a)) (hq : Rd w .u32 q (dig B32 b)) (hn : n = (dig B32 a).length) (hm : m = (dig B32 b).length)
    (hl : (dig B32 a).length ≤ 100000000) (hl2 : (dig B32 b).length ≤ 100000000) (hb : 0 < b) :
    Calls Tryd.prog 135 #[.slice p n c, .slice q m d] w (Gives2 w 91 (dig B32 (a / b)) (dig B32 (a % b))) := by
  by_cases hab : a < b
  · rw [Nat.div_eq_of_lt hab, Nat.mod_eq_of_lt hab, dig_zero]
    exact div_less p q n m c d a b w hp hq hn hm (by omega) (by omega) hab
  · by_cases h1 : (dig B32 b).length = 1
    · have h2 := (dig_len_le B32_two b 1).1 (by omega)
      rw [Nat.pow_one] at h2
      have eb : dig B32 b = [b] := by rw [dig_pos B32_two hb, Nat.div_eq_of_lt h2, dig_zero, Nat.mod_eq_of_lt h2]
      rw [h1] at hm
      rw [eb] at hq
      exact div_small p q n m c d a b w hp hq hn hm (by omega) hb h2 (by omega)
    · have h0 : (dig B32 b).length ≠ 0 := by
        have := dig_len_zero B32_two b
        omega
      exact div_long p q n m c d a b w hp hq hn hm hl (by omega) (by omega)

end Go.Proofs.YtcipdimogodndaaDoor

namespace Go.Slip

end Go.Slip
namespace Go.Proofs.YtcipdimogodndaaDoor
open Go.RowKit Go.Slip

def rowCells (L : List Rw) : List Value := L.flatMap fun x => [.bool x.g, .slice x.p (dig B32 x.m).length x.c, .int .i64 x.e]

def RowW (w : World) (base : Nat) (v : Value) (L : List Rw) : Prop := w.ownsRow base 97 3 v L.length (rowCells L)

def Ov (w : World) (base0 base : Nat) (v : Value) (D : List Dv) : Prop := ∃ L : List Rw, RowW w base0 v L ∧ L.map Rw.v = D ∧ ∀ x ∈ L, InW w base x

def Off (v : Value) (k : Nat) : Prop := v.ownBlock ≠ some k

theorem Ov.nil (w : World) (base0 base : Nat) : Ov w base0 base (.slice none 0 0) [] := ⟨[], World.ownsRow_nil _ _ _ _, rfl, by simp⟩

theorem Ov.lt {w : World} {base0 base : Nat} {v : Value} {D : List Dv} (h : Ov w base0 base v D) : ∀ k, v.ownBlock = some k → base0 ≤ k ∧ k < w.heap.size := by
  obtain ⟨L, h1, _⟩ := h
  exact World.ownsRow.lt h1

theorem Ov.off {w : World} {base0 base : Nat} {v : Value} {D : List Dv} (h : Ov w base0 base v D) {k : Nat} (hk : k < base0 ∨ w.heap.size ≤ k) : Off v k := fun h1 => by
  have := h.lt k h1
  omega

theorem RowW.past {w w' : World} {base : Nat} {v : Value} {L : List Rw} (h : RowW w base v L) (hb : Below w.heap.size w w') : RowW w' base v L := by
  refine ⟨h.1, ?_⟩
  rcases h.2 with hn | ⟨g, cap, cur, hv, hbg, hg, r⟩
  · exact .inl hn
  · exact .inr ⟨g, cap, cur, hv, hbg, (hb.block _ (Array.getElem?_eq_some_iff.1 hg).1).trans hg, r⟩

theorem Ov.past {w w' : World} {base0 base : Nat} {v : Value} {D : List Dv} (h : Ov w base0 base v D) (hb : Below w.heap.size w w') : Ov w' base0 base v D := by
  obtain ⟨L, h1, h2, h3⟩ := h
  exact ⟨L, h1.past hb, h2, fun x hx => (h3 x hx).past hb⟩

theorem InW.grown {w w' : World} {base base2 : Nat} {x : Rw} {v : Value} {n : Nat} {xs : List Value} (h : InW w base x) (hg : w.grownBy w' v.ownBlock) (h2 : w.ownsRow base2 97 3 v n xs) : InW w' base x :=
  ⟨h.ow.grown hg (fun hp he => by
    rcases h2.2 with ⟨h3, _⟩ | ⟨g, cap, cur, hv, _, hgg, _⟩
    · rw [h3] at he; simp [Value.ownBlock] at he
    · rw [hv] at he
      simp only [Value.ownBlock, Option.some.injEq] at he
      exact h.ow.ne_tb (b := g) ⟨cur, (0, 0), hgg⟩ (by decide) hp he), h.len, h.lo, h.hi⟩

theorem Ov.grown {w w' : World} {base0 base base2 base3 : Nat} {v v2 : Value} {D D2 : List Dv} (h : Ov w base0 base v D) (hg : w.grownBy w' v2.ownBlock) (h2 : Ov w base2 base3 v2 D2) (hne : v.ownBlock = none ∨ v.ownBlock ≠ v2.ownBlock) : Ov w' base0 base v D := by
  obtain ⟨L, h3, h4, h5⟩ := h
  obtain ⟨L2, h6, _⟩ := h2
  exact ⟨L, h3.kept hg hne, h4, fun x hx => (h5 x hx).grown hg h6⟩

theorem _root_.Go.Slip.Bx.grown {w w' : World} {b : Nat} {v : Value} {vs : Array Value} (h : Bx w b vs) (hg : w.grownBy w' v.ownBlock) (hne : Off v b) : Bx w' b vs :=
  h.same (hg.block _ h.lt fun he => hne he.symm)

end Go.Proofs.YtcipdimogodndaaDoor

namespace Go.Slip

end Go.Slip
namespace Go.Proofs.YtcipdimogodndaaDoor
open Go.RowKit Go.Slip

theorem Tb.grown {w w' : World} {b : Nat} {t : TypeId} {v : Value} (h : Tb w b t) (hg : w.grownBy w' v.ownBlock) (hne : Off v b) : Tb w' b t := by
  have hl := h.lt
  obtain ⟨vs, fz, h⟩ := h
  exact ⟨vs, fz, (hg.block _ hl fun he => hne he.symm).trans h⟩

theorem El.new (w : World) (r : Rw) (t : TypeId) : El (w.alloc (.cells #[.bool r.g, .slice r.p (dig B32 r.m).length r.c, .int .i64 r.e] t)) w.heap.size 0 r :=
  have h := bx_new w #[.bool r.g, .slice r.p (dig B32 r.m).length r.c, .int .i64 r.e] t
  ⟨h.c 0 rfl, h.c 1 rfl, h.c 2 rfl, h.lt⟩

end Go.Proofs.YtcipdimogodndaaDoor

namespace Go.Proofs.YtcipdimogodndaaDoor
open Go.RowKit Go.Slip

structure In2 (w : World) (x : Din × Din) : Prop where
  a : InD w x.1
  b : InD w x.2
theorem In2.past {w w' : World} {x : Din × Din} (h : In2 w x) (hb : Below w.heap.size w w') : In2 w' x := ⟨h.a.past hb, h.b.past hb⟩

end Go.Proofs.YtcipdimogodndaaDoor

namespace Go.Proofs.YtcipdimogodndaaDoor
open Go.RowKit Go.Slip

structure InL (w : World) (base : Nat) (a : Rw) : Prop where
  ow : Own w base .u32 91 a.p a.c (dig B32 a.m)
  len : (dig B32 a.m).length ≤ 1000000
theorem InL.past {w w' : World} {base : Nat} {a : Rw} (h : InL w base a) (hb : Below w.heap.size w w') : InL w' base a := ⟨h.ow.past hb, h.len⟩

end Go.Proofs.YtcipdimogodndaaDoor

namespace Go.Proofs.YtcipdimogodndaaDoor
open Go.RowKit Go.Slip

theorem sof (N : Int) (n : Nat) (h : N = n) (hn : n < 9223372036854775808) (w : World) : Calls Tryd.prog 96 #[.int .i64 N] w (Gives w .u32 91 (dig B32 n)) := by
  subst h; exact of_any n w hn

theorem sadd (p q : Option Addr) (n m c d : Nat) (a b x : Nat) (w : World) (hp : Rd w .u32 p (dig B32 a)) (hq : Rd w .u32 q (dig B32 b)) (hn : n = (dig B32 a).length) (hm : m = (dig B32 b).length)
    (hl : (dig B32 a).length ≤ 1000000000) (hl2 : (dig B32 b).length ≤ 1000000000) (h : a + b = x) :
    Calls Tryd.prog 74 #[.slice p n c, .slice q m d] w (Gives w .u32 91 (dig B32 x)) := by
  subst h; exact add_any p q n m c d a b w hp hq hn hm hl hl2

end Go.Proofs.YtcipdimogodndaaDoor

namespace Go.Proofs.YtcipdimogodndaaDoor
open Go.RowKit Go.Slip

theorem tyV {P : Program} {t e : TypeId} {z : Value} {bytes : Nat} (h1 : P.underlying t = some (.slice e))
    (h2 : (P.info? e).map (fun i => (i.zero, i.size, i.bytes)) = some (some z, 1, bytes)) (h3 : bytes ≤ 16) (h4 : z.cells = #[z]) (h5 : z.oneCell' = true) : SlTyV P t e z bytes := by
  refine ⟨h1, ?_, h4, h5, h3⟩
  cases h : P.info? e with
  | none => rw [h] at h2; simp at h2
  | some i => rw [h] at h2; simp at h2; exact ⟨i, rfl, h2.1, h2.2.1, h2.2.2⟩
theorem tvBytes : SlTyV Tryd.prog 131 5 (.int .u8 0) 1 := tyV (by kernel_rfl) (by kernel_rfl) (by omega) rfl rfl
theorem tvBools : SlTyV Tryd.prog 121 4 (.bool false) 1 := tyV (by kernel_rfl) (by kernel_rfl) (by omega) rfl rfl
theorem ldByte : SxOne Tryd.prog 5 := sxOne_of (by kernel_rfl) (by kernel_rfl)
theorem ldBool : SxOne Tryd.prog 4 := sxOne_of (by kernel_rfl) (by kernel_rfl)
theorem ldU32 : SxOne Tryd.prog 91 := sxOne_of (by kernel_rfl) (by kernel_rfl)
theorem uBytes : Tryd.prog.underlying 131 = some (.slice 5) := by kernel_rfl
theorem uByte : Tryd.prog.underlying 5 = some (.int .u8) := by kernel_rfl
theorem uStr : Tryd.prog.underlying 9 = some .string := by kernel_rfl

theorem sshl (p : Option Addr) (n c : Nat) (a N x : Nat) (M : Int) (w : World) (hp : Rd w .u32 p (dig B32 a)) (hn : n = (dig B32 a).length) (hl : (dig B32 a).length ≤ 100000000) (hN : N ≤ 1000000000) (hM : M = N) (h : a * 2 ^ N = x) :
    Calls Tryd.prog 90 #[.slice p n c, .int .i64 M] w (Gives w .u32 91 (dig B32 x)) := by
  subst h hM; exact shl_any p n c a N w hp hn (by omega) hN
theorem sshr (p : Option Addr) (n c : Nat) (a N x : Nat) (M : Int) (w : World) (hp : Rd w .u32 p (dig B32 a)) (hn : n = (dig B32 a).length) (hc : (dig B32 a).length ≤ c) (hl : (dig B32 a).length ≤ 100000000) (hN : N ≤ 1000000000) (hM : M = N) (h : a / 2 ^ N = x) :
    Calls Tryd.prog 95 #[.slice p n c, .int .i64 M] w (Gives w .u32 91 (dig B32 x)) := by
  subst h hM; exact shr_any p n c a N w hp hn hc (by omega) hN
theorem ssub (p q : Option Addr) (n m c d : Nat) (a b x : Nat) (w : World) (hp : Rd w .u32 p (dig B32 a)) (hq : Rd w .u32 q (dig B32 b)) (hn : n = (dig B32 a).length) (hm : m = (dig B32 b).length)
    (hl : (dig B32 a).length ≤ 1000000000) (hab : b ≤ a) (h : a - b = x) :
    Calls Tryd.prog 92 #[.slice p n c, .slice q m d] w (Gives w .u32 91 (dig B32 x)) := by
  subst h; exact sub_any p q n m c d a b w hp hq hn hm hl hab
theorem two_any (N x : Nat) (M : Int) (w : World) (hN : N ≤ 1000000) (hM : M = N) (h : 2 ^ N = x) : Calls Tryd.prog 73 #[.int .i64 M] w (Gives w .u32 91 (dig B32 x)) := by
  subst hM
  have l1 : (dig B32 1).length ≤ 1 := by rw [dig_len_le B32_two]; unfold B32; omega
  have I := Inv.start w [] True.intro
  refine zstart [.v (.int .i64 (N : Int))] I Tryd.func73 ?_
  refine zg I (fun Al W I => have hz := I.bel.size; sof 1 1 rfl (by omega) W) fun Al V Iv hz hB K k => ?_
  rintro _ W ⟨p3, c3, rfl, o3, hb⟩
  refine ⟨_, rfl, k _ _ hb fun I => ?_⟩
  clear k K
  have I := I.own o3
  refine zg I (fun Al W I => have hz := I.bel.size; sshl p3 _ c3 1 N x _ W I.fa.1.rd rfl (by omega) (by omega) rfl (by omega)) fun Al V Iv hz hB K k => ?_
  rintro _ W ⟨p5, c5, rfl, o5, hb⟩
  refine ⟨_, rfl, k _ _ hb fun I => ?_⟩
  clear k K
  have I := I.own o5
  exact zret I fun Al W I => ⟨p5, c5, rfl, I.fa.1.mono (by omega), I.below⟩
theorem dig_le_pow {x n k : Nat} (h : x < 2 ^ n) (hk : n ≤ 32 * k) : (dig B32 x).length ≤ k := by
  rw [dig_len_le B32_two]
  unfold B32
  rw [show (4294967296 : Nat) = 2 ^ 32 from rfl, ← Nat.pow_mul]
  exact Nat.lt_of_lt_of_le h (Nat.pow_le_pow_right (by omega) hk)
end Go.Proofs.YtcipdimogodndaaDoor

namespace Go.Proofs.YtcipdimogodndaaDoor
open Go.RowKit Go.Slip

theorem prod16 {x y : Nat} (hx : x < 65536) (hy : y < 65536) : (x : Int) * y ≤ 4294836225 ∧ 0 ≤ (x : Int) * y := by
  have h : x * y ≤ 65535 * 65535 := Nat.mul_le_mul (by omega) (by omega)
  have e : (x : Int) * y = ((x * y : Nat) : Int) := by simp
  rw [e]; omega

set_option maxHeartbeats 1000000 in
set_option maxRecDepth 100000 in
theorem refTimes_any (p q : Option Addr) (n m c d : Nat) (a b : Nat) (w : World) (hp : Rd w .i64 p (dig B16 a)) (hq : Rd w .i64 q (dig B16 b)) (hn : n = (dig B16 a).length) (hm : m = (dig B16 b).length)
    (hl : (dig B16 a).length + (dig B16 b).length ≤ 1000000000) :
    Calls Tryd.prog 110 #[.slice p n c, .slice q m d] w (GivesR w .i64 (dig B16 (a * b))) := by
  subst hn hm
  have HA := Lib.hid (val_dig B16_two a)
  have HB := Lib.hid (val_dig B16_two b)
  have HXL := Lib.hid (dig_lt B16_two a)
  have HYL := Lib.hid (dig_lt B16_two b)
  generalize dig B16 a = xs at hp hl HA HXL ⊢
  generalize dig B16 b = ys at hq hl HB HYL ⊢
  have hsx := hp.solid
  have hsy := hq.solid
  go_enter Tryd.func110, Tryd.ntmps110
  go_wp2_with (refine wpl_make rfl _ _ _ rfl tyN .i64 .i64 (xs.length + ys.length) _ _ rfl rfl ?_ ?_ ?_ ?_; omega; omega; omega; intro p1 c1 w1 ho1 hb1 hz1)
  go_loopw [6] (fun iv wr => ∃ (i : Nat) (L : List Nat), iv = .int .i64 i ∧ i ≤ xs.length ∧ Hid (L.length = xs.length + ys.length) ∧ Own wr w.heap.size .i64 3 p1 c1 L ∧ Below w.heap.size w wr ∧ Hid (MulOut B16 L xs ys i))
    (fun iv _ => xs.length - (intOf iv).toNat)
  case atStart => exact ⟨0, _, rfl, Nat.zero_le _, List.length_replicate, ho1, hb1, MulOut.start B16 B16_pos xs ys _⟩
  case round =>
    obtain ⟨i, L, rfl, hi, hL, hoL, hbL, HR⟩ := hrel
    by_cases hlt : i < xs.length
    · have hxd := getD_lt (B := 65536) (by omega) xs HXL.out i
      go_wp2
      obtain ⟨wo, rfl⟩ : ∃ wo : World, wo = wr := ⟨_, rfl⟩
      go_loopw [7, 8, 9] (fun cv kv _ wr => ∃ (k cr : Nat) (L : List Nat), kv = .int .i64 k ∧ cv = .int .i64 cr ∧ k ≤ ys.length + 1 ∧ cr < 65536 ∧ Hid (L.length = xs.length + ys.length) ∧ Own wr w.heap.size .i64 3 p1 c1 L ∧ Below w.heap.size w wr ∧ Hid (TimesIn L xs ys i k cr))
        (fun _ kv _ _ => ys.length + 1 - (intOf kv).toNat)
      case atStart => exact ⟨0, 0, L, rfl, rfl, Nat.zero_le _, by omega, hL, hoL, hbL, .inl ⟨Nat.zero_le _, HR.out.enter⟩⟩
      case round =>
        obtain ⟨k, cr, L, rfl, rfl, hk, hcr, hL, hoL, hbL, HR⟩ := hrel
        have hpL := hp.past hbL
        have hqL := hq.past hbL
        have hsL := hoL.solid
        rw [hL.out] at hsL
        by_cases hkt : k < ys.length
        · have hc1 := hpL.cells i hlt
          have hc2 := hqL.cells k hkt
          have hc3 := hoL.rd.cells (i + k) (by rw [hL.out]; omega)
          have hyd := getD_lt (B := 65536) (by omega) ys HYL.out k
          have hLd := getD_lt (B := 65536) (by omega) L HR.out.digits (i + k)
          obtain ⟨hpr, hpr0⟩ := prod16 hxd hyd
          have HS := Lib.hid (HR.out.step hkt (by rw [hL.out]; omega))
          have HC := Lib.hid (HR.out.carry hcr hxd hyd)
          have i0 : (0 : Int) ≤ (i : Int) := by omega
          have i1 : (i : Int) < (xs.length : Int) := by omega
          have k0 : (0 : Int) ≤ (k : Int) := by omega
          have k1 : (k : Int) < (ys.length : Int) := by omega
          go_wp2_with fail
          go_quiet (fail)
          have hoL := hoL.drewN nq
          have hbL := below_drewN hbL nq
          generalize wr.drewN nq = wq at hoL hbL ⊢
          clear hc1 hc2 hc3 hpL hqL
          go_wp2_with (refine wpl_store rfl _ _ _ rfl 3 tyN _ _ _ _ hoL (i + k) (by rw [hL.out]; omega) _ ?_ rfl rfl ?_; omega; intro w3 ho3 hg3 hb3)
          have e3 : (((dg L (i + k) : Int) + cr + dg xs i * dg ys k) % 65536).toNat = (dg L (i + k) + cr + dg xs i * dg ys k) % 65536 := by omega
          rw [e3] at ho3
          go_roundw
          case rel => exact ⟨k + 1, (dg L (i + k) + cr + dg xs i * dg ys k) / 65536, _, by go_num, by go_num, by omega, HC.out, (by show (List.set _ _ _).length = _; rw [List.length_set]; exact hL.out), ho3, hbL.trans hb3, HS⟩
          case measure => simp [intOf]; omega
        · by_cases h0 : 0 < cr
          · obtain ⟨hk2, hz, HS⟩ := HR.out.over hkt h0 hcr (by rw [hL.out]; omega)
            subst hk2
            have hc3 := hoL.rd.cells (i + ys.length) (by rw [hL.out]; omega)
            rw [hz] at hc3
            have HS := Lib.hid HS
            clear hz hkt
            go_wp2_with (refine wpl_store rfl _ _ _ rfl 3 tyN _ _ _ _ hoL (i + ys.length) (by rw [hL.out]; omega) _ ?_ rfl rfl ?_; omega; intro w3 ho3 hg3 hb3)
            have e3 : ((cr : Int) % 65536).toNat = cr := by omega
            rw [e3] at ho3
            go_roundw
            case rel => exact ⟨ys.length + 1, 0, _, by go_num, (by rw [show (cr : Int) / 65536 = ((0 : Nat) : Int) by omega]), by omega, by omega, (by show (List.set _ _ _).length = _; rw [List.length_set]; exact hL.out), ho3, hbL.trans hb3, HS⟩
            case measure => simp [intOf]
          · obtain rfl : cr = 0 := by omega
            have HS := Lib.hid (HR.out.done hkt)
            go_wp2
            go_roundw
            case rel => exact ⟨i + 1, L, by go_num, hlt, hL, hoL, hbL, HS⟩
            case measure => simp [intOf]; omega
    · obtain rfl : i = xs.length := by omega
      go_wp2_with (go_at_call 98; refine (refTrim_any _ _ _ L _ hoL.rd hL.out.symm hoL.le_cap HR.out.1 (by rw [hL.out]; omega)).mono ?_; rintro e w3 ⟨rfl, rfl⟩)
      go_ret
      rw [← HR.out.done (Nat.le_refl _) HA.out HB.out]
      have ht := take_dig_len B16_two L HR.out.1
      have ho2 := hoL.take (dig B16 (val B16 L)).length
      rw [ht] at ho2
      exact ⟨p1, _, rfl, ho2.rd, Nat.le_refl _, own_blk ho2, hbL⟩

end Go.Proofs.YtcipdimogodndaaDoor

namespace Go.Proofs.YtcipdimogodndaaDoor
open Go.RowKit Go.Slip

def GivesR2 (w : World) (k : IntKind) (xs ys : List Nat) (en : Ending) (w' : World) : Prop :=
  ∃ p c q d, en = .returned (.tuple #[.slice p xs.length c, .slice q ys.length d]) ∧ Rd w' k p xs ∧ xs.length ≤ c ∧ (0 < xs.length → w.heap.size ≤ blk p) ∧ Rd w' k q ys ∧ ys.length ≤ d ∧ (0 < ys.length → w.heap.size ≤ blk q) ∧ Below w.heap.size w w'

theorem dig_small {B d : Nat} (hB : 2 ≤ B) (h0 : 0 < d) (h : d < B) : dig B d = [d] := by
  rw [dig_pos hB h0, Nat.div_eq_of_lt h, dig_zero, Nat.mod_eq_of_lt h]

theorem dig_of_len_one {B d : Nat} (hB : 2 ≤ B) (h : (dig B d).length = 1) : 0 < d ∧ d < B := by
  have h1 := (dig_len_le hB d 1).1 (by omega)
  rw [Nat.pow_one] at h1
  refine ⟨?_, h1⟩
  rcases Nat.eq_zero_or_pos d with h0 | h0
  · rw [h0, dig_zero] at h; simp at h
  · exact h0

theorem val_one (B r : Nat) : val B [r] = r := by simp

set_option maxHeartbeats 2000000 in
set_option maxRecDepth 100000 in
theorem refInto_one (p q : Option Addr) (n m c e0 : Nat) (a d : Nat) (w : World) (hp : Rd w .i64 p (dig B16 a)) (hq : Rd w .i64 q [d]) (hn : n = (dig B16 a).length) (hm : m = 1)
    (hl : (dig B16 a).length ≤ 1000000000) (hd0 : 0 < d) (hd1 : d < 65536) :
    Calls Tryd.prog 121 #[.slice p n c, .slice q m e0] w (GivesR2 w .i64 (dig B16 (a / d)) (dig B16 (a % d))) := by
  subst hn hm
  have HA := Lib.hid (val_dig B16_two a)
  have HXL := Lib.hid (dig_lt B16_two a)
  generalize dig B16 a = xs at *
  have hsx := hp.solid
  have hsq := hq.solid
  simp only [List.length_singleton] at hsq
  have hcd : w.cell? (at_ q 0) = some (.int .i64 (d : Nat)) := hq.cells 0 (by simp)
  go_enter Tryd.func121, Tryd.ntmps121
  go_wp2_with (refine wpl_make rfl _ _ _ rfl tyN .i64 .i64 xs.length _ _ rfl rfl ?_ ?_ ?_ ?_; omega; omega; omega; intro p1 c1 w1 ho1 hb1 hz1)
  go_loopw [7, 8] (fun rv iv wr => ∃ (k r : Nat) (L : List Nat), iv = .int .i64 ((k : Int) - 1) ∧ rv = .int .i64 r ∧ k ≤ xs.length ∧ r < d ∧ Hid (L.length = xs.length) ∧ Own wr w.heap.size .i64 3 p1 c1 L ∧ Below w.heap.size w wr ∧ Hid (SmallRel B16 L xs d k r))
    (fun _ iv _ => (intOf iv + 1).toNat)
  case atStart => exact ⟨xs.length, 0, _, rfl, rfl, Nat.le_refl _, hd0, List.length_replicate, ho1, hb1, (show SmallRel B16 _ xs d xs.length 0 from ⟨fun x hx => by rw [(List.mem_replicate.1 hx).2]; exact B16_pos, hd0, by simp⟩)⟩
  case round =>
    obtain ⟨k, r, L, rfl, rfl, hk, hrd, hL, hoL, hbL, HR⟩ := hrel
    have hpL := hp.past hbL
    have hsL := hoL.solid
    rw [hL.out] at hsL
    by_cases h0 : 0 < k
    · obtain ⟨k, rfl⟩ : ∃ j, k = j + 1 := ⟨k - 1, by omega⟩
      have hc1 := hpL.cells k (by omega)
      have hxd := getD_lt (B := 65536) (by omega) xs HXL.out k
      obtain ⟨HS, HQ⟩ := HR.out.step (by omega) (by rw [hL.out]; omega) (by unfold B16; exact hxd)
      have HS := Lib.hid HS
      have ej : ((k + 1 : Nat) : Int) - 1 = k := by omega
      rw [ej]
      unfold B16 at HQ
      obtain ⟨t, ht⟩ : ∃ t, t = r * 65536 + dg xs k := ⟨_, rfl⟩
      have et : 65536 * (r : Int) + (dg xs k : Nat) = (t : Nat) := by omega
      have htb : t < 4294967296 := by omega
      rw [← ht] at HQ
      have HT := Lib.hid ht
      have k0 : (0 : Int) ≤ (k : Int) := by omega
      have k1 : (k : Int) < (xs.length : Int) := by omega
      clear ht
      have hcd2 : wr.cell? (at_ q 0) = some (.int .i64 (d : Nat)) := (hq.past hbL).cells 0 (by simp)
      go_wp2_with fail
      clear hc1 ej et
      have e2 : ¬ d = 0 := by omega
      have hqe : ((t / d : Nat) : Int) = (t : Int) / (d : Int) := rfl
      have hql := Nat.div_le_self t d
      have hq0 : (0 : Int) ≤ (t : Int) / (d : Int) := Int.ediv_nonneg (by omega) (by omega)
      have hq1 : (t : Int) / (d : Int) < 4294967296 := by have : ((t / d : Nat) : Int) = (t : Int) / (d : Int) := rfl; omega
      clear hqe hql
      have e3 : IntKind.i64.wrap ((t : Int) / (d : Int)) = (t : Int) / (d : Int) := IntWalk.i64_in _ (by omega)
      have e5 : (t : Int).tmod (d : Int) = (t : Int) % (d : Int) := Int.tmod_eq_emod_of_nonneg (by omega)
      have hcL := hoL.rd.cells k (by rw [hL.out]; omega)
      have hfL := frozen_own hoL k (by rw [hL.out]; omega)
      go_region
      obtain ⟨ho3, hg3, hb3⟩ := stored_own hoL k (by rw [hL.out]; omega) (t / d)
      clear e2 e3 e5 hcL hfL
      have hb3 := hbL.trans (below_of_grown hg3 hbL.size (fun j hj => by cases hj; exact hb3))
      have ho3 := ho3.drew
      have hb3 := hb3.drew
      have eq : ((t / d : Nat) : Int) = (t : Int) / (d : Int) := rfl
      rw [eq] at ho3 hb3 hg3
      generalize (wr.setCell (at_ p1 k) (.int .i64 ((t : Int) / (d : Int)))).drew = w3 at ho3 hb3 ⊢
      clear eq hg3
      go_wp2
      go_roundw
      case rel =>
        have e6 : r * B16 + dg xs k = t := by rw [HT.out]; rfl
        rw [e6] at HS
        exact ⟨k, t % d, _, rfl, rfl, by omega, Nat.mod_lt _ hd0, (by show (List.set _ _ _).length = _; rw [List.length_set]; exact hL.out), ho3, hb3, HS⟩
      case measure => first | (simp [intOf]; done) | (simp [intOf]; omega)
    · obtain rfl : k = 0 := by omega
      obtain ⟨hv, hm⟩ := HR.out.done HA.out
      have HM := Lib.hid hm
      have HV := Lib.hid hv
      clear hv hm
      have hX1 := Lib.hid (show ∀ x ∈ [r], x < B16 by simp; unfold B16; omega)
      go_wp2_with fail
      refine (refTrim_any p1 xs.length c1 L _ hoL.rd hL.out.symm (by rw [hL.out]; exact hL.out ▸ hoL.le_cap) HR.out.1 (by rw [hL.out]; omega)).mono ?_
      rintro e w3 ⟨rfl, rfl⟩
      go_wp2_with (refine wpl_build1 rfl _ _ rfl tyN r (by omega) rfl ?_; intro p2 w2 ho2 hb2 hz2 hp2)
      rw [Int.toNat_natCast] at ho2
      refine (refTrim_any p2 1 1 [r] _ ho2.rd rfl (Nat.le_refl _) hX1.out (by simp)).mono ?_
      rintro e w3 ⟨rfl, rfl⟩
      rw [HV.out, val_one, HM.out]
      go_wp2_with fail
      go_ret2
      have ht := take_dig_len B16_two L HR.out.1
      have ho3 := (hoL.past hb2).take (dig B16 (val B16 L)).length
      rw [ht, HV.out] at ho3
      have ht2 := take_dig_len B16_two [r] hX1.out
      have ho4 := ho2.take (dig B16 (val B16 [r])).length
      rw [ht2, val_one, HM.out] at ho4
      exact ⟨p1, _, p2, _, rfl, ho3.rd, Nat.le_refl _, own_blk ho3, ho4.rd, Nat.le_refl _, fun h => Nat.le_trans hbL.size (own_blk ho4 h), hbL.trans (hb2.mono hbL.size)⟩

end Go.Proofs.YtcipdimogodndaaDoor

namespace Go.Slip
theorem be_take_succ (L : List Nat) (i : Nat) (h : i < L.length) : be (L.take i) * 2 ^ 8 + dg L i = be (L.take (i + 1)) := by
  rw [← List.take_append_getElem h, be_snoc, dg_of_lt h]
theorem nat_beq_one (n : Nat) : (((n : Nat) : Int) == 1) = (n == 1) := by
  rw [Bool.eq_iff_iff, beq_iff_eq, beq_iff_eq]; omega
theorem be_take_lt (L : List Nat) (i : Nat) (h : ∀ c ∈ L, c < 256) (hl : L.length ≤ 10) : be (L.take i) < 2 ^ 80 := by
  have h1 := be_lt (L.take i) (fun c hc => h c (List.mem_of_mem_take hc))
  refine Nat.lt_of_lt_of_le h1 (Nat.pow_le_pow_right (by omega) ?_)
  have : (L.take i).length ≤ L.length := by rw [List.length_take]; omega
  omega
theorem dg_bd {L : List Nat} (h : ∀ c ∈ L, c < 256) (i : Nat) : dg L i < 256 := by
  unfold dg
  cases e : L[i]? with
  | none => simp
  | some x => exact h x (List.mem_of_getElem? e)
theorem be0 (L : List Nat) : be (L.take 0) = 0 := by rw [List.take_zero]; rfl
end Go.Slip
namespace Go.Proofs.YtcipdimogodndaaDoor
open Go.RowKit Go.Slip

def numOfS (f : Fm) (s : ByteArray) : Nat := be (ordL f.ord (bytesOf s))
def GivesT (w : World) (g : Bool) (e x : Nat) (en : Ending) (w' : World) : Prop :=
  ∃ p c, en = .returned (.agg #[.bool g, .int .i64 (e : Int), .slice p (dig B32 x).length c]) ∧ Own w' w.heap.size .u32 91 p c (dig B32 x) ∧ Below w.heap.size w w'

theorem own_be0 (L : List Nat) (w : World) (b : Nat) : Own w b .u32 91 none 0 (dig B32 (be (L.take 0))) := by rw [be0, dig_zero]; exact Own.nil _ _ _ _

set_option maxRecDepth 100000 in
theorem split_any (f : Fm) (s : ByteArray) (w : World) (G : GoodF f) (hs : s.size = f.size) :
    Calls Tryd.prog 106 #[.agg #[.int .i64 ((f.size : Nat) : Int), .int .i64 ((f.E : Nat) : Int), .int .i64 ((f.F : Nat) : Int), .int .i64 f.g.rad, .int .i64 f.g.digs, .int .i64 f.g.lo, .int .i64 f.g.hi, .bool f.g.grad, .bool f.hid, .bool f.inf, .bool f.res, .func (.func (ordF f)) #[] #[]], .string s] w (GivesT w (f.neg (numOfS f s)) (f.exp (numOfS f s)) (f.frac (numOfS f s))) := by
  have z1 := G.sz
  have z2 := G.e2
  have z3 := G.f2
  have z4 := G.bits
  have hl0 : (bytesOf s).length = f.size := by rw [bytesOf_length, hs]
  have hlL : (ordL f.ord (bytesOf s)).length = f.size := by rw [ordL_len, hl0]
  have hbL := ordL_bytes (o := f.ord) (xs := bytesOf s) (fun _ => by omega) (bytesOf_lt s)
  have hord := fun (W : World) (base : Nat) (p : Option Addr) (c : Nat) h1 h2 => ord_any f base p s.size c (bytesOf s) W G h1 (bytesOf_length s).symm hl0 h2
  unfold numOfS
  generalize ordL f.ord (bytesOf s) = L at *
  have hNlt : be L < 2 ^ (8 * f.size) := by rw [← hlL]; exact be_lt L hbL
  have hst := fun i h => be_take_succ L i h
  have hlt := fun i => be_take_lt L i hbL (by omega)
  have hdg := dg_bd hbL
  have hfin : be (L.take f.size) = be L := by rw [List.take_of_length_le (by omega)]
  have hTlt : be L / 2 ^ f.F < 2 ^ (f.E + 1) := by
    rw [Nat.div_lt_iff_lt_mul (Nat.pow_pos (by omega)), ← Nat.pow_add, show f.E + 1 + f.F = 8 * f.size by omega]
    exact hNlt
  have hT16 : be L / 2 ^ f.F < 65536 := Nat.lt_of_lt_of_le hTlt (by rw [show (65536 : Nat) = 2 ^ 16 from rfl]; exact Nat.pow_le_pow_right (by omega) (by omega))
  have hN80 : be L < 2 ^ 80 := Nat.lt_of_lt_of_le hNlt (Nat.pow_le_pow_right (by omega) (by omega))
  have ef : f.frac (be L) = be L - be L / 2 ^ f.F * 2 ^ f.F := by
    unfold Fm.frac
    have := Nat.div_add_mod (be L) (2 ^ f.F)
    rw [Nat.mul_comm] at this
    omega
  have hle : be L / 2 ^ f.F * 2 ^ f.F ≤ be L := Nat.div_mul_le_self _ _
  have hlfr : (dig B32 (be L / 2 ^ f.F * 2 ^ f.F)).length ≤ 3 := dig_le_pow (Nat.lt_of_le_of_lt hle hN80) (by omega)
  rw [ef]
  unfold Fm.neg Fm.exp
  obtain ⟨T, hT⟩ : ∃ T, be L / 2 ^ f.F = T := ⟨_, rfl⟩
  rw [hT] at hTlt hT16 hle hlfr ⊢
  have hTl : (dig B32 T).length ≤ 1 := dig_le_pow (n := 32) (by omega) (by omega)
  have hT0 : (dig B32 T).length = 0 ↔ T = 0 := dig_len_zero B32_two T
  have hTd : 0 < (dig B32 T).length → dg (dig B32 T) 0 = T := fun h => by
    have h0 : 0 < T := by omega
    rw [dig_small B32_two h0 (by unfold B32; omega)]
    rfl
  have hla := fun i => dig_le_pow (hlt i) (k := 3) (by omega)
  have hlN := dig_le_pow hN80 (k := 3) (by omega)
  clear hNlt hlt hN80 ef hbL hl0
  have hsh := shl_one (E := f.E) (by omega)
  have h0T : 0 < 2 ^ f.E := Nat.pow_pos (by omega)
  have h0T2 : 2 ^ f.E ≤ 2 ^ 15 := Nat.pow_le_pow_right (by omega) (by omega)
  have hand := fun h => i64_and_low (x := T) (E := f.E) h (by omega)
  have hshr := shr_nat (x := T) (E := f.E) (by omega)
  have hand0 := fun h => i64_and_low (x := 0) (E := f.E) h (by omega)
  have hshr0 := shr_nat (x := 0) (E := f.E) (by omega)
  generalize hP : 2 ^ f.E = P at *
  have HAND := Lib.hid hand
  have HSHR := Lib.hid hshr
  have HAND0 := Lib.hid hand0
  have HSHR0 := Lib.hid hshr0
  have HSH := Lib.hid hsh
  have HFIN := Lib.hid hfin
  have HTT := Lib.hid hT
  clear hand hshr hand0 hshr0 hsh hfin hT
  have hT3 : SxOne Tryd.prog 3 := sxOne_of (by kernel_rfl) (by kernel_rfl)
  have hT114 : SxOne Tryd.prog 114 := sxOne_of (by kernel_rfl) (by kernel_rfl)
  have hT137 : SxAgg Tryd.prog 137 3 := sxAgg_of (by kernel_rfl) (by kernel_rfl)
  refine calls_of_wp Tryd.func106 rfl ?_
  refine sx_frame (a' := ⟨((.agg #[.int .i64 ((f.size : Nat) : Int), .int .i64 ((f.E : Nat) : Int), .int .i64 ((f.F : Nat) : Int), .int .i64 f.g.rad, .int .i64 f.g.digs, .int .i64 f.g.lo, .int .i64 f.g.hi, .bool f.g.grad, .bool f.hid, .bool f.inf, .bool f.res, .func (.func (ordF f)) #[] #[]]) :: (.string s) :: us 57 []).toArray, []⟩) (by kernel_rfl) ?_
  refine ye ?_
  refine yw 0 rfl 2 #[.int .i64 ((f.size : Nat) : Int), .int .i64 ((f.E : Nat) : Int), .int .i64 ((f.F : Nat) : Int), .int .i64 f.g.rad, .int .i64 f.g.digs, .int .i64 f.g.lo, .int .i64 f.g.hi, .bool f.g.grad, .bool f.hid, .bool f.inf, .bool f.res, .func (.func (ordF f)) #[] #[]] 116 (fun V1 hbV1 hzV1 b2 => ?_)
  refine yw 0 rfl 4 #[.bool false, .int .i64 0, .slice none 0 0] 137 (fun V2 hbV2 hzV2 b4 => ?_)
  refine yzt 0 ?_
  refine ye ?_
  refine yn 1 rfl ?_
  refine sby 12 uStr uBytes uByte s (fun p12 c12 V3 b12 hjV3 => ?_)
  have hbV3 : Below V2.heap.size V2 V3 := (Below.refl _ _).trans (hjV3.mono (by omega))
  have hzV3 := hbV3.size
  refine yzt 1 ?_
  refine ye ?_
  have b2_w3 := b2.past (bthru hbV2 hbV3)
  refine yl 1 rfl 14 b2_w3 hT114 11 ?_
  refine yn 1 rfl ?_
  refine se 16 (ordF f) #[.slice p12 s.size c12] (fun Gx hGx => ?_) (hr := exec_ord3 (ordF f) (ordF_is f) (by kernel_rfl) (by kernel_rfl))
  ((with_reducible refine (hord V3 V2.heap.size p12 c12 b12 (by omega)).mono ?_))
  rintro eV4 V4 ⟨rfl, x16, hjV4⟩
  have hbV4 : Below V2.heap.size V2 V4 := hbV3.trans (hjV4.mono (by omega))
  have hzV4 := hbV4.size
  refine ⟨.tuple #[], rfl, hGx _ _ ?_⟩
  clear hGx Gx
  refine yzt 0 ?_
  refine yq ?_
  refine wp_seq ?_
  refine ye ?_
  refine yv 1 rfl 18 (.int .i64 ((f.size : Nat) : Int)) ?_ (show _ = Result.ok (Next.value (.int .i64 ((f.size : Nat) : Int))) _ from by rw [← hs]; kernel_rfl)
  refine yzt 1 ?_
  refine wp_block ?_
  refine sx_frame (a' := ⟨((.agg #[.int .i64 ((f.size : Nat) : Int), .int .i64 ((f.E : Nat) : Int), .int .i64 ((f.F : Nat) : Int), .int .i64 f.g.rad, .int .i64 f.g.digs, .int .i64 f.g.lo, .int .i64 f.g.hi, .bool f.g.grad, .bool f.hid, .bool f.inf, .bool f.res, .func (.func (ordF f)) #[] #[]]) :: (.string s) :: (.pointer (some ⟨w.heap.size, 0, none⟩)) :: undef :: (.pointer (some ⟨V1.heap.size, 0, none⟩)) :: (.slice p12 s.size c12) :: (.slice none 0 0) :: us 4 ((.string s) :: (.slice p12 s.size c12) :: (.pointer (some ⟨w.heap.size, 11, none⟩)) :: (.func (.func (ordF f)) #[] #[]) :: (.slice p12 s.size c12) :: (.tuple #[]) :: (.slice p12 s.size c12) :: (.int .i64 ((f.size : Nat) : Int)) :: (.int .i64 0) :: us 39 [])).toArray, []⟩) (by kernel_rfl) ?_
  refine sx_loop2 (fun (gk : Nat) U0 a' w' => ∃ (i : Nat) (p6 : Option Addr) (c6 : Nat) (n6 : Nat), a' = ⟨((.agg #[.int .i64 ((f.size : Nat) : Int), .int .i64 ((f.E : Nat) : Int), .int .i64 ((f.F : Nat) : Int), .int .i64 f.g.rad, .int .i64 f.g.digs, .int .i64 f.g.lo, .int .i64 f.g.hi, .bool f.g.grad, .bool f.hid, .bool f.inf, .bool f.res, .func (.func (ordF f)) #[] #[]]) :: (.string s) :: (.pointer (some ⟨w.heap.size, 0, none⟩)) :: undef :: (.pointer (some ⟨V1.heap.size, 0, none⟩)) :: (.slice p12 s.size c12) :: (.slice p6 n6 c6) :: undef :: (U0 8) :: us 2 ((.string s) :: (.slice p12 s.size c12) :: (.pointer (some ⟨w.heap.size, 11, none⟩)) :: (.func (.func (ordF f)) #[] #[]) :: (.slice p12 s.size c12) :: (.tuple #[]) :: (.slice p12 s.size c12) :: (.int .i64 ((f.size : Nat) : Int)) :: (.int .i64 ((i : Nat) : Int)) :: uvs U0 20 10 (us 29 []))).toArray, []⟩ ∧ (Own w' V4.heap.size .u32 91 p6 c6 (dig B32 (be (L.take i)))) ∧ Below V4.heap.size V4 w' ∧ (n6 = (dig B32 (be (L.take i))).length) ∧ (gk + i = f.size)) f.size ?_ (fun Gx hGx => ?_)
  · skip
    exact ⟨0, none, 0, 0, by kernel_rfl, own_be0 L _ _, Below.refl _ _, by rw [be0, dig_zero]; rfl, (by omega)⟩
  rintro gk0 U0 _ V5 ⟨i, p6, c6, n6, rfl, o6, hbV5, hn6, hgk⟩
  refine hGx _ _ _ ?_
  clear hGx Gx
  have hzV5 := hbV5.size
  refine ye ?_
  rcases Bool.eq_false_or_eq_true (decide (((i : Nat) : Int) < ((f.size : Nat) : Int))) with f20 | f20
  · skip
    refine yb 0 rfl 20 (decide (((i : Nat) : Int) < ((f.size : Nat) : Int))) (true) (f20) ?_
    refine yzt 0 ?_
    refine yTs ?_
    refine wp_skip ?_
    refine sx_then ?_
    refine wp_seq ?_
    refine wp_block ?_
    refine ye ?_
    replace x16 := (x16.past hbV5)
    refine yv 0 rfl 21 (.pointer (some (at_ p12 i))) ?_ (exec_ix (p := p12) (n := s.size) (c := c12) (m := i) tyBytes (by have h := x16.rd.solid; rw [hlL, ← hs] at h; exact h) (by kernel_rfl) (by kernel_rfl) (by have := of_decide_eq_true f20; omega))
    refine yv 0 rfl 22 (.int .u8 ((dg L i : Nat) : Int)) ?_ (exec_ldr x16.rd ldByte (m := i) (by kernel_rfl) (by have := of_decide_eq_true f20; omega) rfl)
    refine yzt 1 ?_
    refine sx_region ?_
    refine yc 1 rfl 24 (sshl p6 _ c6 (be (L.take i)) 8 _ 8 V5 o6.rd hn6 (by have := hla i; omega) (by omega) rfl rfl) (fun Gx hGx => ?_)
    rintro eV6 V6 ⟨p24, c24, rfl, o24, hbV6⟩
    have hzV6 := hbV6.size
    refine ⟨_, rfl, hGx _ _ ?_⟩
    clear hGx Gx
    refine ya 1 rfl 26 .i64 ((dg L i : Nat) : Int) (((dg L i : Nat) : Int)) ((IntWalk.i64_in _ (by have := hdg i; omega))) ?_
    refine yc 0 rfl 27 (sof _ (dg L i) rfl (by have := hdg i; omega) V6) (fun Gx hGx => ?_)
    rintro eV7 V7 ⟨p27, c27, rfl, o27, hbV7⟩
    have hzV7 := hbV7.size
    refine ⟨_, rfl, hGx _ _ ?_⟩
    clear hGx Gx
    replace o24 := (o24.past hbV7)
    refine yc 0 rfl 28 (sadd p24 p27 _ _ c24 c27 (be (L.take i) * 2 ^ 8) (dg L i) (be (L.take (i + 1))) V7 o24.rd o27.rd rfl rfl (by have := dig_len_mono B32_two (show be (L.take i) * 2 ^ 8 ≤ be (L.take (i + 1)) by have := hst i (by have := of_decide_eq_true f20; omega); omega); have := hla (i + 1); omega) (by have := dig_len_mono B32_two (show dg L i ≤ be (L.take (i + 1)) by have := hst i (by have := of_decide_eq_true f20; omega); omega); have := hla (i + 1); omega) (hst i (by have := of_decide_eq_true f20; omega))) (fun Gx hGx => ?_)
    rintro eV8 V8 ⟨p28, c28, rfl, o28, hbV8⟩
    have hzV8 := hbV8.size
    refine ⟨_, rfl, hGx _ _ ?_⟩
    clear hGx Gx
    refine yz 1 ?_
    refine sx_inblock ?_
    refine sx_then ?_
    refine sx_region ?_
    refine ya 0 rfl 29 .i64 (((i : Nat) : Int) + 1) (((i + 1 : Nat) : Int)) ((by rw [show (((i : Nat) : Int) + 1) = ((i + 1 : Nat) : Int) by omega]; exact IntWalk.i64_in _ (by have := of_decide_eq_true f20; omega))) ?_
    refine yz 1 ?_
    refine sx_then ?_
    refine ⟨gk0 - 1, (by have := of_decide_eq_true f20; omega), ?_⟩
    exact ⟨i + 1, p28, c28, _, by kernel_rfl, o28.mono (by omega), (bthru (bthru (bthru hbV5 hbV6) hbV7) hbV8), rfl, (by have := of_decide_eq_true f20; omega)⟩
  refine yb 0 rfl 20 (decide (((i : Nat) : Int) < ((f.size : Nat) : Int))) (false) (f20) ?_
  refine yzt 0 ?_
  refine yFs ?_
  refine wp_exit ?_
  repeat (with_reducible refine sx_thenexit ?_)
  refine sx_exit (id := 0) ?_
  refine sx_then ?_
  have hi : i = f.size := by have := of_decide_eq_false f20; omega
  rw [hi, HFIN.out] at o6 hn6
  refine ye ?_
  have b2_w5 := b2.past (bthru (bthru hbV2 hbV4) hbV5)
  refine yl 2 rfl 32 b2_w5 hT3 2 ?_
  refine yc 0 rfl 33 (sshr p6 _ c6 (be L) f.F T _ V5 o6.rd hn6 (by have := o6.le_cap; omega) (by omega) (by omega) rfl HTT.out) (fun Gx hGx => ?_)
  rintro eV6 V6 ⟨p33, c33, rfl, o33, hbV6⟩
  have hzV6 := hbV6.size
  refine ⟨_, rfl, hGx _ _ ?_⟩
  clear hGx Gx
  refine yzt 1 ?_
  refine yq ?_
  refine wp_seq ?_
  refine ye ?_
  rcases Bool.eq_false_or_eq_true (decide ((((dig B32 T).length : Nat) : Int) > 0)) with f36 | f36
  · skip
    refine yb 2 rfl 36 (decide ((((dig B32 T).length : Nat) : Int) > 0)) (true) (f36) ?_
    refine yzt 0 ?_
    refine yT ?_
    refine sx_region ?_
    refine yv 1 rfl 38 (.pointer (some (at_ p33 0))) ?_ (exec_ix (p := p33) (n := (dig B32 T).length) (c := c33) (m := 0) tyNat o33.rd.solid (by kernel_rfl) (by kernel_rfl) (by have := of_decide_eq_true f36; omega))
    refine yv 0 rfl 39 (.int .u32 ((T : Nat) : Int)) ?_ (exec_ldr o33.rd ldU32 (m := 0) (by kernel_rfl) (by have := of_decide_eq_true f36; omega) (by rw [hTd (by have := of_decide_eq_true f36; omega)]))
    refine yi 0 rfl 40 ((T : Nat) : Int) ?_
    refine yz 1 ?_
    refine sx_then ?_
    refine wp_seq ?_
    have b2_w6 := b2.past (bthru (bthru (bthru hbV2 hbV4) hbV5) hbV6)
    obtain ⟨V7, hVV7, hbV7, hzV7⟩ := drew_of V6
    have b2_w7 := b2.past (bthru (bthru (bthru (bthru hbV2 hbV4) hbV5) hbV6) hbV7)
    refine yd1 hVV7 b2_w7 ?_
    clear hVV7
    refine yt 17 [0, 1] rfl b2_w7 ?_
    refine ytl 2 rfl 43 (fun _ h => h) hT3 1 b2_w7 ?_
    refine tk 3 44 (.int .i64 ((T / P : Nat) : Int)) b2_w7 ?_ (hy := fun w' _ => (exec_shr (X := ((T : Nat) : Int)) (Y := ((f.E : Nat) : Int)) (k2 := .i64) ((T / P : Nat) : Int) (by kernel_rfl) (by kernel_rfl) (Int.natCast_nonneg f.E) ((by first | exact HSHR.out | (rw [hT0.1 (by have := of_decide_eq_false f36; omega)]; exact HSHR0.out)))))
    refine tk 4 45 (.bool (T / P == 1)) b2_w7 ?_ (hy := fun w' _ => ((show _ = Result.ok (Next.value (.bool (((T / P : Nat) : Int) == 1))) _ from (by kernel_rfl)).trans (congrArg (fun z => Result.ok (Next.value (.bool z)) _) (show (((T / P : Nat) : Int) == 1) = ((T / P == 1)) from (by exact nat_beq_one _)))))
    refine yt 12 [5, 6] rfl b2_w7 ?_
    refine ytl 7 rfl 48 (fun _ h => h) hT3 1 b2_w7 ?_
    refine tk 8 49 (.int .i64 ((P : Nat) : Int)) b2_w7 ?_ (hy := fun w' _ => (exec_shl (X := (1)) (Y := ((f.E : Nat) : Int)) (k2 := .i64) ((P : Nat) : Int) (by kernel_rfl) (by kernel_rfl) (Int.natCast_nonneg f.E) ((HSH.out))))
    refine tk 9 50 (.int .i64 ((P - 1 : Nat) : Int)) b2_w7 ?_ (hy := fun w' _ => ((show _ = Result.ok (Next.value (.int .i64 (IntKind.wrap .i64 (((P : Nat) : Int) - 1)))) _ by kernel_rfl).trans (congrArg (fun z => Result.ok (Next.value (.int .i64 z)) _) ((by rw [show (((P : Nat) : Int) - 1) = ((P - 1 : Nat) : Int) by omega]; exact IntWalk.i64_in _ (by omega))))))
    refine tk 10 51 (.int .i64 ((T % P : Nat) : Int)) b2_w7 ?_ (hy := fun w' _ => (exec_and (X := ((T : Nat) : Int)) (Y := (((P - 1 : Nat) : Int))) ((T % P : Nat) : Int) (by kernel_rfl) (by kernel_rfl) ((by first | exact HAND.out (by omega) | (rw [hT0.1 (by have := of_decide_eq_false f36; omega)]; exact HAND0.out (by omega))))))
    refine yt 5 [11, 12, 13] rfl b2_w7 ?_
    refine ytl 14 rfl 55 (fun _ h => h) hT3 2 b2_w7 ?_
    refine sxr [15] ?_
    refine rd1 (fun Kx hKx => ?_)
    replace o33 := (o33.past hbV7)
    refine yck 56 (sshl p33 _ c33 T f.F (T * 2 ^ f.F) _ V7 o33.rd rfl (by omega) (by omega) rfl rfl) ?_
    rintro eV8 V8 ⟨p56, c56, rfl, o56, hbV8⟩
    have hzV8 := hbV8.size
    refine ⟨_, rfl, ?_⟩
    have b2_w8 := b2.past (bthru (bthru (bthru (bthru (bthru hbV2 hbV4) hbV5) hbV6) hbV7) hbV8)
    refine hKx.out _ _ b2_w8 ?_
    clear hKx Kx
    refine sxr [16] ?_
    refine rd1 (fun Kx hKx => ?_)
    replace o6 := (o6.past (bthru (bthru hbV6 hbV7) hbV8))
    refine yck 57 (ssub p6 p56 _ _ c6 c56 (be L) (T * 2 ^ f.F) (be L - T * 2 ^ f.F) V8 o6.rd o56.rd hn6 rfl (by omega) hle rfl) ?_
    rintro eV9 V9 ⟨p57, c57, rfl, o57, hbV9⟩
    have hzV9 := hbV9.size
    refine ⟨_, rfl, ?_⟩
    have b2_w9 := b2.past (bthru (bthru (bthru (bthru (bthru (bthru hbV2 hbV4) hbV5) hbV6) hbV7) hbV8) hbV9)
    refine hKx.out _ _ b2_w9 ?_
    clear hKx Kx
    refine yt 1 [17] rfl b2_w9 ?_
    refine sxr [18] ?_
    refine rd1 (fun Kx hKx => ?_)
    replace b4 := (b4.past (bthru (bthru (bthru (bthru (bthru hbV4 hbV5) hbV6) hbV7) hbV8) hbV9))
    refine ssk none b4 hT137 0 #[.bool (T / P == 1), .int .i64 ((T % P : Nat) : Int), .slice p57 (dig B32 (be L - T * 2 ^ f.F)).length c57] #[.bool (T / P == 1), .int .i64 ((T % P : Nat) : Int), .slice p57 (dig B32 (be L - T * 2 ^ f.F)).length c57] ?_
    have boV10 := b4
    clear b4
    intro V10 hOV10 b4
    have hzV10 := hOV10.size
    have b2_w10 := b2.past ((bthru (bthru (bthru (bthru (bthru (bthru hbV2 hbV4) hbV5) hbV6) hbV7) hbV8) hbV9).trans (hOV10.below (by omega)))
    refine hKx.out _ _ b2_w10 ?_
    clear hKx Kx
    refine sx_done (by kernel_rfl) ?_
    refine sx_then ?_
    refine wp_ret ?_
    repeat (first | with_reducible refine sx_thenret ?_ | with_reducible refine sx_blockret ?_)
    refine yret (.agg #[.bool (T / P == 1), .int .i64 ((T % P : Nat) : Int), .slice p57 (dig B32 (be L - T * 2 ^ f.F)).length c57]) (res1 Tryd.results106 (rvr b4 hT137)) ?_
    replace o57 := (o57.put boV10 hOV10 (by kernel_rfl))
    exact ⟨p57, c57, rfl, o57.mono (by omega), ((bthru (bthru (bthru (bthru (bthru (bthru (bthru hbV1 hbV2) hbV4) hbV5) hbV6) hbV7) hbV8) hbV9).trans (hOV10.below (by omega)))⟩
  refine yb 2 rfl 36 (decide ((((dig B32 T).length : Nat) : Int) > 0)) (false) (f36) ?_
  refine yzt 0 ?_
  refine yF ?_
  refine wp_skip ?_
  refine sx_then ?_
  refine wp_seq ?_
  have b2_w6 := b2.past (bthru (bthru (bthru hbV2 hbV4) hbV5) hbV6)
  obtain ⟨V7, hVV7, hbV7, hzV7⟩ := drew_of V6
  have b2_w7 := b2.past (bthru (bthru (bthru (bthru hbV2 hbV4) hbV5) hbV6) hbV7)
  refine yd1 hVV7 b2_w7 ?_
  clear hVV7
  refine yt 17 [0, 1] rfl b2_w7 ?_
  refine ytl 2 rfl 43 (fun _ h => h) hT3 1 b2_w7 ?_
  refine tk 3 44 (.int .i64 ((T / P : Nat) : Int)) b2_w7 ?_ (hy := fun w' _ => (exec_shr (X := (0)) (Y := ((f.E : Nat) : Int)) (k2 := .i64) ((T / P : Nat) : Int) (by kernel_rfl) (by kernel_rfl) (Int.natCast_nonneg f.E) ((by first | exact HSHR.out | (rw [hT0.1 (by have := of_decide_eq_false f36; omega)]; exact HSHR0.out)))))
  refine tk 4 45 (.bool (T / P == 1)) b2_w7 ?_ (hy := fun w' _ => ((show _ = Result.ok (Next.value (.bool (((T / P : Nat) : Int) == 1))) _ from (by kernel_rfl)).trans (congrArg (fun z => Result.ok (Next.value (.bool z)) _) (show (((T / P : Nat) : Int) == 1) = ((T / P == 1)) from (by exact nat_beq_one _)))))
  refine yt 12 [5, 6] rfl b2_w7 ?_
  refine ytl 7 rfl 48 (fun _ h => h) hT3 1 b2_w7 ?_
  refine tk 8 49 (.int .i64 ((P : Nat) : Int)) b2_w7 ?_ (hy := fun w' _ => (exec_shl (X := (1)) (Y := ((f.E : Nat) : Int)) (k2 := .i64) ((P : Nat) : Int) (by kernel_rfl) (by kernel_rfl) (Int.natCast_nonneg f.E) ((HSH.out))))
  refine tk 9 50 (.int .i64 ((P - 1 : Nat) : Int)) b2_w7 ?_ (hy := fun w' _ => ((show _ = Result.ok (Next.value (.int .i64 (IntKind.wrap .i64 (((P : Nat) : Int) - 1)))) _ by kernel_rfl).trans (congrArg (fun z => Result.ok (Next.value (.int .i64 z)) _) ((by rw [show (((P : Nat) : Int) - 1) = ((P - 1 : Nat) : Int) by omega]; exact IntWalk.i64_in _ (by omega))))))
  refine tk 10 51 (.int .i64 ((T % P : Nat) : Int)) b2_w7 ?_ (hy := fun w' _ => (exec_and (X := (0)) (Y := (((P - 1 : Nat) : Int))) ((T % P : Nat) : Int) (by kernel_rfl) (by kernel_rfl) ((by first | exact HAND.out (by omega) | (rw [hT0.1 (by have := of_decide_eq_false f36; omega)]; exact HAND0.out (by omega))))))
  refine yt 5 [11, 12, 13] rfl b2_w7 ?_
  refine ytl 14 rfl 55 (fun _ h => h) hT3 2 b2_w7 ?_
  refine sxr [15] ?_
  refine rd1 (fun Kx hKx => ?_)
  replace o33 := (o33.past hbV7)
  refine yck 56 (sshl p33 _ c33 T f.F (T * 2 ^ f.F) _ V7 o33.rd rfl (by omega) (by omega) rfl rfl) ?_
  rintro eV8 V8 ⟨p56, c56, rfl, o56, hbV8⟩
  have hzV8 := hbV8.size
  refine ⟨_, rfl, ?_⟩
  have b2_w8 := b2.past (bthru (bthru (bthru (bthru (bthru hbV2 hbV4) hbV5) hbV6) hbV7) hbV8)
  refine hKx.out _ _ b2_w8 ?_
  clear hKx Kx
  refine sxr [16] ?_
  refine rd1 (fun Kx hKx => ?_)
  replace o6 := (o6.past (bthru (bthru hbV6 hbV7) hbV8))
  refine yck 57 (ssub p6 p56 _ _ c6 c56 (be L) (T * 2 ^ f.F) (be L - T * 2 ^ f.F) V8 o6.rd o56.rd hn6 rfl (by omega) hle rfl) ?_
  rintro eV9 V9 ⟨p57, c57, rfl, o57, hbV9⟩
  have hzV9 := hbV9.size
  refine ⟨_, rfl, ?_⟩
  have b2_w9 := b2.past (bthru (bthru (bthru (bthru (bthru (bthru hbV2 hbV4) hbV5) hbV6) hbV7) hbV8) hbV9)
  refine hKx.out _ _ b2_w9 ?_
  clear hKx Kx
  refine yt 1 [17] rfl b2_w9 ?_
  refine sxr [18] ?_
  refine rd1 (fun Kx hKx => ?_)
  replace b4 := (b4.past (bthru (bthru (bthru (bthru (bthru hbV4 hbV5) hbV6) hbV7) hbV8) hbV9))
  refine ssk none b4 hT137 0 #[.bool (T / P == 1), .int .i64 ((T % P : Nat) : Int), .slice p57 (dig B32 (be L - T * 2 ^ f.F)).length c57] #[.bool (T / P == 1), .int .i64 ((T % P : Nat) : Int), .slice p57 (dig B32 (be L - T * 2 ^ f.F)).length c57] ?_
  have boV10 := b4
  clear b4
  intro V10 hOV10 b4
  have hzV10 := hOV10.size
  have b2_w10 := b2.past ((bthru (bthru (bthru (bthru (bthru (bthru hbV2 hbV4) hbV5) hbV6) hbV7) hbV8) hbV9).trans (hOV10.below (by omega)))
  refine hKx.out _ _ b2_w10 ?_
  clear hKx Kx
  refine sx_done (by kernel_rfl) ?_
  refine sx_then ?_
  refine wp_ret ?_
  repeat (first | with_reducible refine sx_thenret ?_ | with_reducible refine sx_blockret ?_)
  refine yret (.agg #[.bool (T / P == 1), .int .i64 ((T % P : Nat) : Int), .slice p57 (dig B32 (be L - T * 2 ^ f.F)).length c57]) (res1 Tryd.results106 (rvr b4 hT137)) ?_
  replace o57 := (o57.put boV10 hOV10 (by kernel_rfl))
  exact ⟨p57, c57, rfl, o57.mono (by omega), ((bthru (bthru (bthru (bthru (bthru (bthru (bthru hbV1 hbV2) hbV4) hbV5) hbV6) hbV7) hbV8) hbV9).trans (hOV10.below (by omega)))⟩

end Go.Proofs.YtcipdimogodndaaDoor

namespace Go.Slip
def LL (bs : List Nat) (i : Nat) : List Nat := bs.take i ++ List.replicate (bs.length - i) 0
theorem LL_len (bs : List Nat) (i : Nat) : (LL bs i).length = bs.length := by unfold LL; rw [List.length_append, List.length_take, List.length_replicate]; omega
theorem LL_zero (bs : List Nat) : LL bs 0 = List.replicate bs.length 0 := by unfold LL; rw [List.take_zero]; rfl
theorem LL_all (bs : List Nat) : LL bs bs.length = bs := by unfold LL; rw [List.take_length, Nat.sub_self]; simp
theorem dg_LL (bs : List Nat) (i j : Nat) : dg (LL bs i) j = if j < i then dg bs j else 0 := by
  unfold LL
  by_cases h : j < (bs.take i).length
  · rw [dg_append_lt h]
    have h2 : j < i := by rw [List.length_take] at h; omega
    rw [dg_take h2, if_pos h2]
  · rw [dg_append_ge (by omega), dg_replicate]
    split
    · rw [dg_of_ge]
      rw [List.length_take] at h
      omega
    · rfl
theorem LL_set (bs : List Nat) {i : Nat} (h : i < bs.length) : (LL bs i).set i (dg bs i) = LL bs (i + 1) := by
  refine ext_dg (by rw [List.length_set, LL_len, LL_len]) fun j hj => ?_
  rw [List.length_set, LL_len] at hj
  by_cases e : i = j
  · subst e
    rw [dg_set_same (by rw [LL_len]; exact h), dg_LL, if_pos (by omega)]
  · rw [dg_set_ne e, dg_LL, dg_LL]
    by_cases k : j < i
    · rw [if_pos k, if_pos (by omega)]
    · rw [if_neg k, if_neg (by omega)]
theorem LL_same (bs : List Nat) {i : Nat} (h0 : dg bs i = 0) : LL bs i = LL bs (i + 1) := by
  refine ext_dg (by rw [LL_len, LL_len]) fun j _ => ?_
  rw [dg_LL, dg_LL]
  by_cases e : j = i
  · subst e
    rw [if_neg (by omega), if_pos (by omega), h0]
  · by_cases k : j < i
    · rw [if_pos k, if_pos (by omega)]
    · rw [if_neg k, if_neg (by omega)]
theorem u8_wrap (n : Nat) : IntKind.u8.wrap (n : Int) = ((n % 256 : Nat) : Int) := by
  simp [IntKind.wrap, IntKind.signed, IntKind.bits]
theorem dg_dig0 (n : Nat) : dg (dig B32 n) 0 = n % 4294967296 := by
  rcases Nat.eq_zero_or_pos n with h | h
  · subst h; rw [dig_zero]; rfl
  · rw [dig_pos B32_two h]; rfl
section
open Go.RowKit
variable {P : Program} {ops : Array Oper} {Q : Exit → Act → World → Prop} {a : Act} {w : World} {rest : List Oper} {o : Oper}
theorem smkn (d : Nat) {x y : Operand} {t : TypeId} {e : TypeId} {k : IntKind} {bytes : Nat} (hty : SlTyV P t e (.int k 0) bytes) (n : Nat) (hb : n ≤ 4000000000)
    (h : ∀ p' c' w', Own w' w.heap.size k e p' c' (List.replicate n 0) → Below w.heap.size w w' → WpL P ops Q rest (a.put (some d) (.slice p' n c')) w')
    (hx : a.eval x = .int .i64 (n : Int) := by kernel_rfl) (hy : a.eval y = .int .i64 (n : Int) := by kernel_rfl)
    (ho : o.op = .makeSlice t x y := by rfl) (hd : o.dst = some d := by kernel_rfl)
    (hw : Region.wanted o (yielded ops a.tmps) = true := by kernel_rfl) : WpL P ops Q (o :: rest) a w :=
  wpList_of (opw_mk (some d) hd x y t ho hty .i64 .i64 n hx hy hb hw fun p' c' w' h1 h2 => h p' c' w' (own_of_v (by rw [List.map_replicate]; exact h1)) h2)
theorem smkv (d : Nat) {x y : Operand} {t : TypeId} {e : TypeId} {z : Value} {bytes : Nat} (hty : SlTyV P t e z bytes) (n : Nat) (hb : n ≤ 4000000000)
    (h : ∀ p' c' w', OwnV w' w.heap.size e p' c' (List.replicate n z) → Below w.heap.size w w' → WpL P ops Q rest (a.put (some d) (.slice p' n c')) w')
    (hx : a.eval x = .int .i64 (n : Int) := by kernel_rfl) (hy : a.eval y = .int .i64 (n : Int) := by kernel_rfl)
    (ho : o.op = .makeSlice t x y := by rfl) (hd : o.dst = some d := by kernel_rfl)
    (hw : Region.wanted o (yielded ops a.tmps) = true := by kernel_rfl) : WpL P ops Q (o :: rest) a w :=
  wpList_of (opw_mk (some d) hd x y t ho hty .i64 .i64 n hx hy hb hw h)
end
end Go.Slip
namespace Go.Proofs.YtcipdimogodndaaDoor
open Go.RowKit Go.Slip

set_option maxHeartbeats 1000000 in
set_option maxRecDepth 100000 in
theorem join_any (f : Fm) (g : Bool) (e x : Nat) (p : Option Addr) (c : Nat) (w : World) (G : GoodF f) (hp : Rd w .u32 p (dig B32 x)) (he : e < 2 ^ f.E) (hx : x < 2 ^ f.F) :
    Calls Tryd.prog 75 #[.agg #[.int .i64 ((f.size : Nat) : Int), .int .i64 ((f.E : Nat) : Int), .int .i64 ((f.F : Nat) : Int), .int .i64 f.g.rad, .int .i64 f.g.digs, .int .i64 f.g.lo, .int .i64 f.g.hi, .bool f.g.grad, .bool f.hid, .bool f.inf, .bool f.res, .func (.func (ordF f)) #[] #[]], .agg #[.bool g, .int .i64 ((e : Nat) : Int), .slice p (dig B32 x).length c]] w fun en w' => en = .returned (.string (strOf (f.str g e x))) ∧ Below w.heap.size w w' := by
  have z1 := G.sz
  have z2 := G.e2
  have z3 := G.f2
  have z4 := G.bits
  have hlt := pat_lt G (neg := g) he hx
  have hxl := dig_le_pow hx (k := 2) (by omega)
  have hT : g.toNat * 2 ^ f.E + e < 2 ^ 16 := by
    have h1 : 2 ^ f.E ≤ 2 ^ 15 := Nat.pow_le_pow_right (by omega) (by omega)
    cases g <;> simp <;> omega
  have hpw : 2 ^ f.E ≤ 2 ^ 15 := Nat.pow_le_pow_right (by omega) (by omega)
  have hsh := shl_one (E := f.E) (by omega)
  have hor := i64_or_top (x := e) (E := f.E) he (by omega)
  have h80 : f.pat g e x < 2 ^ 80 := Nat.lt_of_lt_of_le hlt (Nat.pow_le_pow_right (by omega) (by omega))
  unfold Fm.str
  have hpe : f.pat g e x = (g.toNat * 2 ^ f.E + e) * 2 ^ f.F + x := rfl
  have hord := fun (W : World) (base : Nat) (p : Option Addr) (c : Nat) (xs : List Nat) h1 h2 h3 => ord_any f base p f.size c xs W G h1 h2.symm h2 h3
  generalize hNN : f.pat g e x = NN at *
  have hbl : (bytesN NN f.size).length = f.size := bytesN_len _ _
  have hdg := fun i h => dg_bytesN f.size NN i h
  have hbs := fun i h => LL_set (bytesN NN f.size) (i := i) h
  have hbz := fun i h => LL_same (bytesN NN f.size) (i := i) h
  have hball := LL_all (bytesN NN f.size)
  have hb0 := LL_zero (bytesN NN f.size)
  have hLl := LL_len (bytesN NN f.size)
  rw [hbl] at hball hb0
  generalize bytesN NN f.size = bs at *
  generalize h2E : 2 ^ f.E = P at *
  have hNl := dig_le_pow h80 (k := 3) (by omega)
  have hTl : (dig B32 ((g.toNat * P + e) * 2 ^ f.F)).length ≤ 3 := dig_le_pow (n := 80) (by omega) (by omega)
  have hQl : ∀ N, (dig B32 (NN / 2 ^ N)).length ≤ 3 := fun N => dig_le_pow (n := 80) (Nat.lt_of_le_of_lt (Nat.div_le_self _ _) h80) (by omega)
  have HSH := Lib.hid hsh
  have HOR := Lib.hid hor
  have HPE := Lib.hid hpe
  have HB0 := Lib.hid hb0
  clear hsh hor hpe hb0 hlt h80 hNN h2E
  have hT3 : SxOne Tryd.prog 3 := sxOne_of (by kernel_rfl) (by kernel_rfl)
  have hT4 : SxOne Tryd.prog 4 := sxOne_of (by kernel_rfl) (by kernel_rfl)
  have hT23 : SxOne Tryd.prog 23 := sxOne_of (by kernel_rfl) (by kernel_rfl)
  have hT114 : SxOne Tryd.prog 114 := sxOne_of (by kernel_rfl) (by kernel_rfl)
  refine calls_of_wp Tryd.func75 rfl ?_
  refine sx_frame (a' := ⟨((.agg #[.int .i64 ((f.size : Nat) : Int), .int .i64 ((f.E : Nat) : Int), .int .i64 ((f.F : Nat) : Int), .int .i64 f.g.rad, .int .i64 f.g.digs, .int .i64 f.g.lo, .int .i64 f.g.hi, .bool f.g.grad, .bool f.hid, .bool f.inf, .bool f.res, .func (.func (ordF f)) #[] #[]]) :: (.agg #[.bool g, .int .i64 ((e : Nat) : Int), .slice p (dig B32 x).length c]) :: us 58 []).toArray, []⟩) (by kernel_rfl) ?_
  refine ye ?_
  refine yw 0 rfl 2 #[.int .i64 ((f.size : Nat) : Int), .int .i64 ((f.E : Nat) : Int), .int .i64 ((f.F : Nat) : Int), .int .i64 f.g.rad, .int .i64 f.g.digs, .int .i64 f.g.lo, .int .i64 f.g.hi, .bool f.g.grad, .bool f.hid, .bool f.inf, .bool f.res, .func (.func (ordF f)) #[] #[]] 116 (fun V1 hbV1 hzV1 b2 => ?_)
  refine yw 0 rfl 3 #[.bool g, .int .i64 ((e : Nat) : Int), .slice p (dig B32 x).length c] 137 (fun V2 hbV2 hzV2 b3 => ?_)
  refine yzt 1 ?_
  refine ye ?_
  refine yl 1 rfl 11 b3 hT3 1 ?_
  refine yzt 1 ?_
  refine wp_seq ?_
  refine ye ?_
  rcases Bool.eq_false_or_eq_true (g) with f13 | f13
  · skip
    refine ylb 1 rfl 13 b3 hT4 0 (g) true (f13) ?_
    refine yzt 0 ?_
    refine yT ?_
    refine sx_region ?_
    have b2_w2 := b2.past hbV2
    refine yl 2 rfl 16 b2_w2 hT3 1 ?_
    refine yv 0 rfl 17 (.int .i64 ((P : Nat) : Int)) ?_ (exec_shl (X := (1)) (Y := ((f.E : Nat) : Int)) (k2 := .i64) ((P : Nat) : Int) (by kernel_rfl) (by kernel_rfl) (by omega) ((HSH.out)))
    refine yv 0 rfl 18 (.int .i64 ((P + e : Nat) : Int)) ?_ (exec_or (X := ((e : Nat) : Int)) (Y := (((P : Nat) : Int))) ((P + e : Nat) : Int) (by kernel_rfl) (by kernel_rfl) ((HOR.out)))
    refine yz 1 ?_
    refine sx_then ?_
    refine wp_seq ?_
    obtain ⟨V3, hVV3, hbV3, hzV3⟩ := drew_of V2
    have b2_w3 := b2.past (bthru hbV2 hbV3)
    replace b3 := (b3.past hbV3)
    refine yd2 hVV3 ⟨b2_w3, b3⟩ ?_
    clear hVV3
    refine yt 7 [0, 2] rfl ⟨b2_w3, b3⟩ ?_
    refine ytl 3 rfl 22 (fun _ h => h.1) hT3 2 ⟨b2_w3, b3⟩ ?_
    refine yt 5 [5] rfl ⟨b2_w3, b3⟩ ?_
    refine ytl 6 rfl 25 (fun _ h => h.2) hT23 2 ⟨b2_w3, b3⟩ ?_
    refine sxr [1] ?_
    refine rd1 (fun Kx hKx => ?_)
    refine yck 20 (sof ((P + e : Nat) : Int) (g.toNat * P + e) (by rw [f13, Bool.toNat_true, Nat.one_mul]) (by omega) V3) ?_
    rintro eV4 V4 ⟨p20, c20, rfl, o20, hbV4⟩
    have hzV4 := hbV4.size
    refine ⟨_, rfl, ?_⟩
    have b2_w4 := b2.past (bthru (bthru hbV2 hbV3) hbV4)
    replace b3 := (b3.past hbV4)
    refine hKx.out _ _ ⟨b2_w4, b3⟩ ?_
    clear hKx Kx
    refine sxr [4] ?_
    refine rd1 (fun Kx hKx => ?_)
    refine yck 23 (sshl p20 _ c20 (g.toNat * P + e) f.F ((g.toNat * P + e) * 2 ^ f.F) _ V4 o20.rd rfl (by have := dig_le_pow hT (k := 1) (by omega); omega) (by omega) rfl rfl) ?_
    rintro eV5 V5 ⟨p23, c23, rfl, o23, hbV5⟩
    have hzV5 := hbV5.size
    refine ⟨_, rfl, ?_⟩
    have b2_w5 := b2.past (bthru (bthru (bthru hbV2 hbV3) hbV4) hbV5)
    replace b3 := (b3.past hbV5)
    refine hKx.out _ _ ⟨b2_w5, b3⟩ ?_
    clear hKx Kx
    refine sxr [7] ?_
    refine rd1 (fun Kx hKx => ?_)
    replace hp := (hp.past (bthru (bthru (bthru (bthru hbV1 hbV2) hbV3) hbV4) hbV5))
    refine yck 26 (sadd p23 p _ _ c23 c ((g.toNat * P + e) * 2 ^ f.F) x NN V5 o23.rd hp rfl rfl (by omega) (by omega) HPE.out.symm) ?_
    rintro eV6 V6 ⟨p26, c26, rfl, o26, hbV6⟩
    have hzV6 := hbV6.size
    refine ⟨_, rfl, ?_⟩
    have b2_w6 := b2.past (bthru (bthru (bthru (bthru hbV2 hbV3) hbV4) hbV5) hbV6)
    replace b3 := (b3.past hbV6)
    refine hKx.out _ _ ⟨b2_w6, b3⟩ ?_
    clear hKx Kx
    refine yt 0 [8] rfl ⟨b2_w6, b3⟩ ?_
    refine sx_done (by kernel_rfl) ?_
    refine sx_then ?_
    refine ye ?_
    refine yl 1 rfl 28 b2_w6 hT3 0 ?_
    refine smkn 29 tvBytes f.size (by omega) (fun p29 c29 V7 b29 hjV7 => ?_)
    have hbV7 : Below V6.heap.size V6 V7 := (Below.refl _ _).trans (hjV7.mono (by omega))
    have hzV7 := hbV7.size
    refine yzt 1 ?_
    refine wp_seq ?_
    refine yq ?_
    refine wp_block ?_
    refine sx_frame (a' := ⟨((.agg #[.int .i64 ((f.size : Nat) : Int), .int .i64 ((f.E : Nat) : Int), .int .i64 ((f.F : Nat) : Int), .int .i64 f.g.rad, .int .i64 f.g.digs, .int .i64 f.g.lo, .int .i64 f.g.hi, .bool f.g.grad, .bool f.hid, .bool f.inf, .bool f.res, .func (.func (ordF f)) #[] #[]]) :: (.agg #[.bool g, .int .i64 ((e : Nat) : Int), .slice p (dig B32 x).length c]) :: (.pointer (some ⟨w.heap.size, 0, none⟩)) :: (.pointer (some ⟨V1.heap.size, 0, none⟩)) :: (Go.Value.string (ByteArray.mk #[])) :: (.int .i64 ((P + e : Nat) : Int)) :: (.slice p26 (dig B32 NN).length c26) :: (.slice p29 f.size c29) :: us 2 ((.pointer (some ⟨V1.heap.size, 1, none⟩)) :: (.int .i64 ((e : Nat) : Int)) :: (.pointer (some ⟨V1.heap.size, 0, none⟩)) :: (.bool true) :: (.int .i64 ((e : Nat) : Int)) :: (.pointer (some ⟨w.heap.size, 1, none⟩)) :: (.int .i64 ((f.E : Nat) : Int)) :: (.int .i64 ((P : Nat) : Int)) :: (.int .i64 ((P + e : Nat) : Int)) :: (.int .i64 ((P + e : Nat) : Int)) :: (.slice p20 (dig B32 (g.toNat * P + e)).length c20) :: (.pointer (some ⟨w.heap.size, 2, none⟩)) :: (.int .i64 ((f.F : Nat) : Int)) :: (.slice p23 (dig B32 ((g.toNat * P + e) * 2 ^ f.F)).length c23) :: (.pointer (some ⟨V1.heap.size, 2, none⟩)) :: (.slice p (dig B32 x).length c) :: (.slice p26 (dig B32 NN).length c26) :: (.pointer (some ⟨w.heap.size, 0, none⟩)) :: (.int .i64 ((f.size : Nat) : Int)) :: (.slice p29 f.size c29) :: (.slice p29 f.size c29) :: (.int .i64 ((f.size : Nat) : Int)) :: (.int .i64 0) :: us 27 [])).toArray, []⟩) (by kernel_rfl) ?_
    refine sx_loop2 (fun (gk : Nat) U0 a' w' => ∃ (i : Nat), a' = ⟨((.agg #[.int .i64 ((f.size : Nat) : Int), .int .i64 ((f.E : Nat) : Int), .int .i64 ((f.F : Nat) : Int), .int .i64 f.g.rad, .int .i64 f.g.digs, .int .i64 f.g.lo, .int .i64 f.g.hi, .bool f.g.grad, .bool f.hid, .bool f.inf, .bool f.res, .func (.func (ordF f)) #[] #[]]) :: (.agg #[.bool g, .int .i64 ((e : Nat) : Int), .slice p (dig B32 x).length c]) :: (.pointer (some ⟨w.heap.size, 0, none⟩)) :: (.pointer (some ⟨V1.heap.size, 0, none⟩)) :: (Go.Value.string (ByteArray.mk #[])) :: (.int .i64 ((P + e : Nat) : Int)) :: (.slice p26 (dig B32 NN).length c26) :: (.slice p29 f.size c29) :: uvs U0 8 2 ((.pointer (some ⟨V1.heap.size, 1, none⟩)) :: (.int .i64 ((e : Nat) : Int)) :: (.pointer (some ⟨V1.heap.size, 0, none⟩)) :: (.bool true) :: (.int .i64 ((e : Nat) : Int)) :: (.pointer (some ⟨w.heap.size, 1, none⟩)) :: (.int .i64 ((f.E : Nat) : Int)) :: (.int .i64 ((P : Nat) : Int)) :: (.int .i64 ((P + e : Nat) : Int)) :: (.int .i64 ((P + e : Nat) : Int)) :: (.slice p20 (dig B32 (g.toNat * P + e)).length c20) :: (.pointer (some ⟨w.heap.size, 2, none⟩)) :: (.int .i64 ((f.F : Nat) : Int)) :: (.slice p23 (dig B32 ((g.toNat * P + e) * 2 ^ f.F)).length c23) :: (.pointer (some ⟨V1.heap.size, 2, none⟩)) :: (.slice p (dig B32 x).length c) :: (.slice p26 (dig B32 NN).length c26) :: (.pointer (some ⟨w.heap.size, 0, none⟩)) :: (.int .i64 ((f.size : Nat) : Int)) :: (.slice p29 f.size c29) :: (.slice p29 f.size c29) :: (.int .i64 ((f.size : Nat) : Int)) :: (.int .i64 ((i : Nat) : Int)) :: uvs U0 33 21 (us 6 []))).toArray, []⟩ ∧ (Own w' V6.heap.size .u8 5 p29 c29 (LL bs i)) ∧ Below V6.heap.size V6 w' ∧ (gk + i = f.size)) f.size ?_ (fun Gx hGx => ?_)
    · skip
      exact ⟨0, by kernel_rfl, (by rw [HB0.out]; exact b29), hbV7, (by omega)⟩
    rintro gk0 U0 _ V8 ⟨i, rfl, r29, hbV8, hgk⟩
    refine hGx _ _ _ ?_
    clear hGx Gx
    have hzV8 := hbV8.size
    refine ye ?_
    rcases Bool.eq_false_or_eq_true (decide (((i : Nat) : Int) < ((f.size : Nat) : Int))) with f33 | f33
    · skip
      refine yb 0 rfl 33 (decide (((i : Nat) : Int) < ((f.size : Nat) : Int))) (true) (f33) ?_
      refine yzt 0 ?_
      refine yTs ?_
      refine wp_skip ?_
      refine sx_then ?_
      refine wp_seq ?_
      refine wp_block ?_
      refine yq ?_
      refine ye ?_
      have b2_w8 := b2.past (bthru (bthru (bthru (bthru (bthru hbV2 hbV3) hbV4) hbV5) hbV6) hbV8)
      refine yl 2 rfl 37 b2_w8 hT3 0 ?_
      refine ya 0 rfl 38 .i64 (((f.size : Nat) : Int) - 1) (((f.size - 1 : Nat) : Int)) ((by rw [show (((f.size : Nat) : Int) - 1) = ((f.size - 1 : Nat) : Int) by omega]; exact IntWalk.i64_in _ (by omega))) ?_
      refine ya 1 rfl 40 .i64 (((f.size - 1 : Nat) : Int) - ((i : Nat) : Int)) (((f.size - 1 - i : Nat) : Int)) ((by rw [show (((f.size - 1 : Nat) : Int) - ((i : Nat) : Int)) = ((f.size - 1 - i : Nat) : Int) by have := of_decide_eq_true f33; omega]; exact IntWalk.i64_in _ (by omega))) ?_
      refine ya 0 rfl 41 .i64 ((8 : Int) * ((f.size - 1 - i : Nat) : Int)) (((8 * (f.size - 1 - i) : Nat) : Int)) ((by rw [show ((8 : Int) * ((f.size - 1 - i : Nat) : Int)) = ((8 * (f.size - 1 - i) : Nat) : Int) by omega]; exact IntWalk.i64_in _ (by omega))) ?_
      have o26_w8 := o26.past hbV8
      refine yc 0 rfl 42 (sshr p26 _ c26 NN (8 * (f.size - 1 - i)) (NN / 2 ^ (8 * (f.size - 1 - i))) _ V8 o26_w8.rd rfl (by have := o26_w8.le_cap; omega) (by omega) (by omega) rfl rfl) (fun Gx hGx => ?_)
      rintro eV9 V9 ⟨p42, c42, rfl, o42, hbV9⟩
      have hzV9 := hbV9.size
      refine ⟨_, rfl, hGx _ _ ?_⟩
      clear hGx Gx
      refine yzt 1 ?_
      have hi := of_decide_eq_true f33
      have hdi := hdg i (by omega)
      have hq0 := dig_len_zero B32_two (NN / 2 ^ (8 * (f.size - 1 - i)))
      refine ye ?_
      rcases Bool.eq_false_or_eq_true (decide ((((dig B32 (NN / 2 ^ (8 * (f.size - 1 - i)))).length : Nat) : Int) > 0)) with f45 | f45
      · skip
        refine yb 2 rfl 45 (decide ((((dig B32 (NN / 2 ^ (8 * (f.size - 1 - i)))).length : Nat) : Int) > 0)) (true) (f45) ?_
        refine yzt 0 ?_
        refine yT ?_
        refine sx_region ?_
        refine yv 3 rfl 49 (.pointer (some (at_ p42 0))) ?_ (exec_ix (p := p42) (n := (dig B32 (NN / 2 ^ (8 * (f.size - 1 - i)))).length) (c := c42) (m := 0) tyNat o42.rd.solid (by kernel_rfl) (by kernel_rfl) (by have := of_decide_eq_true f45; omega))
        refine yv 0 rfl 50 (.int .u32 ((dg (dig B32 (NN / 2 ^ (8 * (f.size - 1 - i)))) 0 : Nat) : Int)) ?_ (exec_ldr o42.rd ldU32 (m := 0) (by kernel_rfl) (by have := of_decide_eq_true f45; omega) rfl)
        refine ya 0 rfl 51 .u8 ((dg (dig B32 (NN / 2 ^ (8 * (f.size - 1 - i)))) 0 : Nat) : Int) (((dg bs i : Nat) : Int)) ((by rw [u8_wrap, dg_dig0, hdi]; congr 1; exact Nat.mod_mod_of_dvd _ (by decide))) ?_
        replace r29 := (r29.past hbV9)
        refine yv 0 rfl 52 (.pointer (some (at_ p29 i))) ?_ (exec_ixv (p := p29) (n := f.size) (c := c29) (m := i) tvBytes (by have h := r29.solid; rw [hLl, hbl] at h; exact h) (by kernel_rfl) (by kernel_rfl) (by omega))
        refine sputn tvBytes V6.heap.size p29 c29 _ r29 i (by rw [hLl, hbl]; omega) (dg bs i) (fun V10 n29 hjV10 => ?_)
        have hbV10 : Below V6.heap.size V6 V10 := (bthru hbV8 hbV9).trans (hjV10.mono (by omega))
        have hzV10 := hbV10.size
        refine yz 0 ?_
        refine sx_inblock ?_
        refine sx_then ?_
        refine sx_region ?_
        refine ya 0 rfl 53 .i64 (((i : Nat) : Int) + 1) (((i + 1 : Nat) : Int)) ((by rw [show (((i : Nat) : Int) + 1) = ((i + 1 : Nat) : Int) by omega]; exact IntWalk.i64_in _ (by omega))) ?_
        refine yz 1 ?_
        refine sx_then ?_
        refine ⟨gk0 - 1, (by omega), ?_⟩
        exact ⟨i + 1, by kernel_rfl, (by rw [← hbs i (by omega)]; exact n29), hbV10, (by omega)⟩
      refine yb 2 rfl 45 (decide ((((dig B32 (NN / 2 ^ (8 * (f.size - 1 - i)))).length : Nat) : Int) > 0)) (false) (f45) ?_
      refine yzt 0 ?_
      refine yF ?_
      refine wp_skip ?_
      refine sx_inblock ?_
      refine sx_then ?_
      refine sx_region ?_
      refine ya 0 rfl 53 .i64 (((i : Nat) : Int) + 1) (((i + 1 : Nat) : Int)) ((by rw [show (((i : Nat) : Int) + 1) = ((i + 1 : Nat) : Int) by omega]; exact IntWalk.i64_in _ (by omega))) ?_
      refine yz 1 ?_
      refine sx_then ?_
      refine ⟨gk0 - 1, (by omega), ?_⟩
      replace r29 := (r29.past hbV9)
      exact ⟨i + 1, by kernel_rfl, (by rw [← hbz i (by rw [hdi, hq0.1 (by have := of_decide_eq_false f45; omega)])]; exact r29), (bthru hbV8 hbV9), (by omega)⟩
    refine yb 0 rfl 33 (decide (((i : Nat) : Int) < ((f.size : Nat) : Int))) (false) (f33) ?_
    refine yzt 0 ?_
    refine yFs ?_
    refine wp_exit ?_
    repeat (with_reducible refine sx_thenexit ?_)
    refine sx_exit (id := 0) ?_
    refine sx_then ?_
    have hi : i = f.size := by have := of_decide_eq_false f33; omega
    rw [hi, hball] at r29
    refine ye ?_
    have b2_w8 := b2.past (bthru (bthru (bthru (bthru (bthru hbV2 hbV3) hbV4) hbV5) hbV6) hbV8)
    refine yl 1 rfl 55 b2_w8 hT114 11 ?_
    refine yn 1 rfl ?_
    refine se 57 (ordF f) #[.slice p29 f.size c29] (fun Gx hGx => ?_) (hr := exec_ord3 (ordF f) (ordF_is f) (by kernel_rfl) (by kernel_rfl))
    ((with_reducible refine (hord V8 V6.heap.size p29 c29 bs r29.wr hbl (by omega)).mono ?_))
    rintro eV9 V9 ⟨rfl, x57, hjV9⟩
    have hbV9 : Below V6.heap.size V6 V9 := hbV8.trans (hjV9.mono (by omega))
    have hzV9 := hbV9.size
    refine ⟨.tuple #[], rfl, hGx _ _ ?_⟩
    clear hGx Gx
    refine yzt 0 ?_
    refine ye ?_
    refine yv 1 rfl 59 (.string (strOf (ordL f.ord bs))) ?_ (exec_str (p := p29) (n := f.size) (c := c29) uBytes uByte uStr x57.rd (by rw [ordL_len, hbl]) (by kernel_rfl))
    refine yzt 1 ?_
    refine wp_ret ?_
    repeat (first | with_reducible refine sx_thenret ?_ | with_reducible refine sx_blockret ?_)
    refine yret (.string (strOf (ordL f.ord bs))) (res1 Tryd.results75 rvt) ?_
    exact ⟨rfl, (bthru (bthru (bthru (bthru (bthru (bthru hbV1 hbV2) hbV3) hbV4) hbV5) hbV6) hbV9)⟩
  refine ylb 1 rfl 13 b3 hT4 0 (g) false (f13) ?_
  refine yzt 0 ?_
  refine yF ?_
  refine wp_skip ?_
  refine sx_then ?_
  refine wp_seq ?_
  have b2_w2 := b2.past hbV2
  obtain ⟨V3, hVV3, hbV3, hzV3⟩ := drew_of V2
  have b2_w3 := b2.past (bthru hbV2 hbV3)
  replace b3 := (b3.past hbV3)
  refine yd2 hVV3 ⟨b2_w3, b3⟩ ?_
  clear hVV3
  refine yt 7 [0, 2] rfl ⟨b2_w3, b3⟩ ?_
  refine ytl 3 rfl 22 (fun _ h => h.1) hT3 2 ⟨b2_w3, b3⟩ ?_
  refine yt 5 [5] rfl ⟨b2_w3, b3⟩ ?_
  refine ytl 6 rfl 25 (fun _ h => h.2) hT23 2 ⟨b2_w3, b3⟩ ?_
  refine sxr [1] ?_
  refine rd1 (fun Kx hKx => ?_)
  refine yck 20 (sof ((e : Nat) : Int) (g.toNat * P + e) (by rw [f13, Bool.toNat_false, Nat.zero_mul, Nat.zero_add]) (by omega) V3) ?_
  rintro eV4 V4 ⟨p20, c20, rfl, o20, hbV4⟩
  have hzV4 := hbV4.size
  refine ⟨_, rfl, ?_⟩
  have b2_w4 := b2.past (bthru (bthru hbV2 hbV3) hbV4)
  replace b3 := (b3.past hbV4)
  refine hKx.out _ _ ⟨b2_w4, b3⟩ ?_
  clear hKx Kx
  refine sxr [4] ?_
  refine rd1 (fun Kx hKx => ?_)
  refine yck 23 (sshl p20 _ c20 (g.toNat * P + e) f.F ((g.toNat * P + e) * 2 ^ f.F) _ V4 o20.rd rfl (by have := dig_le_pow hT (k := 1) (by omega); omega) (by omega) rfl rfl) ?_
  rintro eV5 V5 ⟨p23, c23, rfl, o23, hbV5⟩
  have hzV5 := hbV5.size
  refine ⟨_, rfl, ?_⟩
  have b2_w5 := b2.past (bthru (bthru (bthru hbV2 hbV3) hbV4) hbV5)
  replace b3 := (b3.past hbV5)
  refine hKx.out _ _ ⟨b2_w5, b3⟩ ?_
  clear hKx Kx
  refine sxr [7] ?_
  refine rd1 (fun Kx hKx => ?_)
  replace hp := (hp.past (bthru (bthru (bthru (bthru hbV1 hbV2) hbV3) hbV4) hbV5))
  refine yck 26 (sadd p23 p _ _ c23 c ((g.toNat * P + e) * 2 ^ f.F) x NN V5 o23.rd hp rfl rfl (by omega) (by omega) HPE.out.symm) ?_
  rintro eV6 V6 ⟨p26, c26, rfl, o26, hbV6⟩
  have hzV6 := hbV6.size
  refine ⟨_, rfl, ?_⟩
  have b2_w6 := b2.past (bthru (bthru (bthru (bthru hbV2 hbV3) hbV4) hbV5) hbV6)
  replace b3 := (b3.past hbV6)
  refine hKx.out _ _ ⟨b2_w6, b3⟩ ?_
  clear hKx Kx
  refine yt 0 [8] rfl ⟨b2_w6, b3⟩ ?_
  refine sx_done (by kernel_rfl) ?_
  refine sx_then ?_
  refine ye ?_
  refine yl 1 rfl 28 b2_w6 hT3 0 ?_
  refine smkn 29 tvBytes f.size (by omega) (fun p29 c29 V7 b29 hjV7 => ?_)
  have hbV7 : Below V6.heap.size V6 V7 := (Below.refl _ _).trans (hjV7.mono (by omega))
  have hzV7 := hbV7.size
  refine yzt 1 ?_
  refine wp_seq ?_
  refine yq ?_
  refine wp_block ?_
  refine sx_frame (a' := ⟨((.agg #[.int .i64 ((f.size : Nat) : Int), .int .i64 ((f.E : Nat) : Int), .int .i64 ((f.F : Nat) : Int), .int .i64 f.g.rad, .int .i64 f.g.digs, .int .i64 f.g.lo, .int .i64 f.g.hi, .bool f.g.grad, .bool f.hid, .bool f.inf, .bool f.res, .func (.func (ordF f)) #[] #[]]) :: (.agg #[.bool g, .int .i64 ((e : Nat) : Int), .slice p (dig B32 x).length c]) :: (.pointer (some ⟨w.heap.size, 0, none⟩)) :: (.pointer (some ⟨V1.heap.size, 0, none⟩)) :: (Go.Value.string (ByteArray.mk #[])) :: (.int .i64 ((e : Nat) : Int)) :: (.slice p26 (dig B32 NN).length c26) :: (.slice p29 f.size c29) :: us 2 ((.pointer (some ⟨V1.heap.size, 1, none⟩)) :: (.int .i64 ((e : Nat) : Int)) :: (.pointer (some ⟨V1.heap.size, 0, none⟩)) :: (.bool false) :: us 5 ((.int .i64 ((e : Nat) : Int)) :: (.slice p20 (dig B32 (g.toNat * P + e)).length c20) :: (.pointer (some ⟨w.heap.size, 2, none⟩)) :: (.int .i64 ((f.F : Nat) : Int)) :: (.slice p23 (dig B32 ((g.toNat * P + e) * 2 ^ f.F)).length c23) :: (.pointer (some ⟨V1.heap.size, 2, none⟩)) :: (.slice p (dig B32 x).length c) :: (.slice p26 (dig B32 NN).length c26) :: (.pointer (some ⟨w.heap.size, 0, none⟩)) :: (.int .i64 ((f.size : Nat) : Int)) :: (.slice p29 f.size c29) :: (.slice p29 f.size c29) :: (.int .i64 ((f.size : Nat) : Int)) :: (.int .i64 0) :: us 27 []))).toArray, []⟩) (by kernel_rfl) ?_
  refine sx_loop2 (fun (gk : Nat) U0 a' w' => ∃ (i : Nat), a' = ⟨((.agg #[.int .i64 ((f.size : Nat) : Int), .int .i64 ((f.E : Nat) : Int), .int .i64 ((f.F : Nat) : Int), .int .i64 f.g.rad, .int .i64 f.g.digs, .int .i64 f.g.lo, .int .i64 f.g.hi, .bool f.g.grad, .bool f.hid, .bool f.inf, .bool f.res, .func (.func (ordF f)) #[] #[]]) :: (.agg #[.bool g, .int .i64 ((e : Nat) : Int), .slice p (dig B32 x).length c]) :: (.pointer (some ⟨w.heap.size, 0, none⟩)) :: (.pointer (some ⟨V1.heap.size, 0, none⟩)) :: (Go.Value.string (ByteArray.mk #[])) :: (.int .i64 ((e : Nat) : Int)) :: (.slice p26 (dig B32 NN).length c26) :: (.slice p29 f.size c29) :: uvs U0 8 2 ((.pointer (some ⟨V1.heap.size, 1, none⟩)) :: (.int .i64 ((e : Nat) : Int)) :: (.pointer (some ⟨V1.heap.size, 0, none⟩)) :: (.bool false) :: us 5 ((.int .i64 ((e : Nat) : Int)) :: (.slice p20 (dig B32 (g.toNat * P + e)).length c20) :: (.pointer (some ⟨w.heap.size, 2, none⟩)) :: (.int .i64 ((f.F : Nat) : Int)) :: (.slice p23 (dig B32 ((g.toNat * P + e) * 2 ^ f.F)).length c23) :: (.pointer (some ⟨V1.heap.size, 2, none⟩)) :: (.slice p (dig B32 x).length c) :: (.slice p26 (dig B32 NN).length c26) :: (.pointer (some ⟨w.heap.size, 0, none⟩)) :: (.int .i64 ((f.size : Nat) : Int)) :: (.slice p29 f.size c29) :: (.slice p29 f.size c29) :: (.int .i64 ((f.size : Nat) : Int)) :: (.int .i64 ((i : Nat) : Int)) :: uvs U0 33 21 (us 6 [])))).toArray, []⟩ ∧ (Own w' V6.heap.size .u8 5 p29 c29 (LL bs i)) ∧ Below V6.heap.size V6 w' ∧ (gk + i = f.size)) f.size ?_ (fun Gx hGx => ?_)
  · skip
    exact ⟨0, by kernel_rfl, (by rw [HB0.out]; exact b29), hbV7, (by omega)⟩
  rintro gk0 U0 _ V8 ⟨i, rfl, r29, hbV8, hgk⟩
  refine hGx _ _ _ ?_
  clear hGx Gx
  have hzV8 := hbV8.size
  refine ye ?_
  rcases Bool.eq_false_or_eq_true (decide (((i : Nat) : Int) < ((f.size : Nat) : Int))) with f33 | f33
  · skip
    refine yb 0 rfl 33 (decide (((i : Nat) : Int) < ((f.size : Nat) : Int))) (true) (f33) ?_
    refine yzt 0 ?_
    refine yTs ?_
    refine wp_skip ?_
    refine sx_then ?_
    refine wp_seq ?_
    refine wp_block ?_
    refine yq ?_
    refine ye ?_
    have b2_w8 := b2.past (bthru (bthru (bthru (bthru (bthru hbV2 hbV3) hbV4) hbV5) hbV6) hbV8)
    refine yl 2 rfl 37 b2_w8 hT3 0 ?_
    refine ya 0 rfl 38 .i64 (((f.size : Nat) : Int) - 1) (((f.size - 1 : Nat) : Int)) ((by rw [show (((f.size : Nat) : Int) - 1) = ((f.size - 1 : Nat) : Int) by omega]; exact IntWalk.i64_in _ (by omega))) ?_
    refine ya 1 rfl 40 .i64 (((f.size - 1 : Nat) : Int) - ((i : Nat) : Int)) (((f.size - 1 - i : Nat) : Int)) ((by rw [show (((f.size - 1 : Nat) : Int) - ((i : Nat) : Int)) = ((f.size - 1 - i : Nat) : Int) by have := of_decide_eq_true f33; omega]; exact IntWalk.i64_in _ (by omega))) ?_
    refine ya 0 rfl 41 .i64 ((8 : Int) * ((f.size - 1 - i : Nat) : Int)) (((8 * (f.size - 1 - i) : Nat) : Int)) ((by rw [show ((8 : Int) * ((f.size - 1 - i : Nat) : Int)) = ((8 * (f.size - 1 - i) : Nat) : Int) by omega]; exact IntWalk.i64_in _ (by omega))) ?_
    have o26_w8 := o26.past hbV8
    refine yc 0 rfl 42 (sshr p26 _ c26 NN (8 * (f.size - 1 - i)) (NN / 2 ^ (8 * (f.size - 1 - i))) _ V8 o26_w8.rd rfl (by have := o26_w8.le_cap; omega) (by omega) (by omega) rfl rfl) (fun Gx hGx => ?_)
    rintro eV9 V9 ⟨p42, c42, rfl, o42, hbV9⟩
    have hzV9 := hbV9.size
    refine ⟨_, rfl, hGx _ _ ?_⟩
    clear hGx Gx
    refine yzt 1 ?_
    have hi := of_decide_eq_true f33
    have hdi := hdg i (by omega)
    have hq0 := dig_len_zero B32_two (NN / 2 ^ (8 * (f.size - 1 - i)))
    refine ye ?_
    rcases Bool.eq_false_or_eq_true (decide ((((dig B32 (NN / 2 ^ (8 * (f.size - 1 - i)))).length : Nat) : Int) > 0)) with f45 | f45
    · skip
      refine yb 2 rfl 45 (decide ((((dig B32 (NN / 2 ^ (8 * (f.size - 1 - i)))).length : Nat) : Int) > 0)) (true) (f45) ?_
      refine yzt 0 ?_
      refine yT ?_
      refine sx_region ?_
      refine yv 3 rfl 49 (.pointer (some (at_ p42 0))) ?_ (exec_ix (p := p42) (n := (dig B32 (NN / 2 ^ (8 * (f.size - 1 - i)))).length) (c := c42) (m := 0) tyNat o42.rd.solid (by kernel_rfl) (by kernel_rfl) (by have := of_decide_eq_true f45; omega))
      refine yv 0 rfl 50 (.int .u32 ((dg (dig B32 (NN / 2 ^ (8 * (f.size - 1 - i)))) 0 : Nat) : Int)) ?_ (exec_ldr o42.rd ldU32 (m := 0) (by kernel_rfl) (by have := of_decide_eq_true f45; omega) rfl)
      refine ya 0 rfl 51 .u8 ((dg (dig B32 (NN / 2 ^ (8 * (f.size - 1 - i)))) 0 : Nat) : Int) (((dg bs i : Nat) : Int)) ((by rw [u8_wrap, dg_dig0, hdi]; congr 1; exact Nat.mod_mod_of_dvd _ (by decide))) ?_
      replace r29 := (r29.past hbV9)
      refine yv 0 rfl 52 (.pointer (some (at_ p29 i))) ?_ (exec_ixv (p := p29) (n := f.size) (c := c29) (m := i) tvBytes (by have h := r29.solid; rw [hLl, hbl] at h; exact h) (by kernel_rfl) (by kernel_rfl) (by omega))
      refine sputn tvBytes V6.heap.size p29 c29 _ r29 i (by rw [hLl, hbl]; omega) (dg bs i) (fun V10 n29 hjV10 => ?_)
      have hbV10 : Below V6.heap.size V6 V10 := (bthru hbV8 hbV9).trans (hjV10.mono (by omega))
      have hzV10 := hbV10.size
      refine yz 0 ?_
      refine sx_inblock ?_
      refine sx_then ?_
      refine sx_region ?_
      refine ya 0 rfl 53 .i64 (((i : Nat) : Int) + 1) (((i + 1 : Nat) : Int)) ((by rw [show (((i : Nat) : Int) + 1) = ((i + 1 : Nat) : Int) by omega]; exact IntWalk.i64_in _ (by omega))) ?_
      refine yz 1 ?_
      refine sx_then ?_
      refine ⟨gk0 - 1, (by omega), ?_⟩
      exact ⟨i + 1, by kernel_rfl, (by rw [← hbs i (by omega)]; exact n29), hbV10, (by omega)⟩
    refine yb 2 rfl 45 (decide ((((dig B32 (NN / 2 ^ (8 * (f.size - 1 - i)))).length : Nat) : Int) > 0)) (false) (f45) ?_
    refine yzt 0 ?_
    refine yF ?_
    refine wp_skip ?_
    refine sx_inblock ?_
    refine sx_then ?_
    refine sx_region ?_
    refine ya 0 rfl 53 .i64 (((i : Nat) : Int) + 1) (((i + 1 : Nat) : Int)) ((by rw [show (((i : Nat) : Int) + 1) = ((i + 1 : Nat) : Int) by omega]; exact IntWalk.i64_in _ (by omega))) ?_
    refine yz 1 ?_
    refine sx_then ?_
    refine ⟨gk0 - 1, (by omega), ?_⟩
    replace r29 := (r29.past hbV9)
    exact ⟨i + 1, by kernel_rfl, (by rw [← hbz i (by rw [hdi, hq0.1 (by have := of_decide_eq_false f45; omega)])]; exact r29), (bthru hbV8 hbV9), (by omega)⟩
  refine yb 0 rfl 33 (decide (((i : Nat) : Int) < ((f.size : Nat) : Int))) (false) (f33) ?_
  refine yzt 0 ?_
  refine yFs ?_
  refine wp_exit ?_
  repeat (with_reducible refine sx_thenexit ?_)
  refine sx_exit (id := 0) ?_
  refine sx_then ?_
  have hi : i = f.size := by have := of_decide_eq_false f33; omega
  rw [hi, hball] at r29
  refine ye ?_
  have b2_w8 := b2.past (bthru (bthru (bthru (bthru (bthru hbV2 hbV3) hbV4) hbV5) hbV6) hbV8)
  refine yl 1 rfl 55 b2_w8 hT114 11 ?_
  refine yn 1 rfl ?_
  refine se 57 (ordF f) #[.slice p29 f.size c29] (fun Gx hGx => ?_) (hr := exec_ord3 (ordF f) (ordF_is f) (by kernel_rfl) (by kernel_rfl))
  ((with_reducible refine (hord V8 V6.heap.size p29 c29 bs r29.wr hbl (by omega)).mono ?_))
  rintro eV9 V9 ⟨rfl, x57, hjV9⟩
  have hbV9 : Below V6.heap.size V6 V9 := hbV8.trans (hjV9.mono (by omega))
  have hzV9 := hbV9.size
  refine ⟨.tuple #[], rfl, hGx _ _ ?_⟩
  clear hGx Gx
  refine yzt 0 ?_
  refine ye ?_
  refine yv 1 rfl 59 (.string (strOf (ordL f.ord bs))) ?_ (exec_str (p := p29) (n := f.size) (c := c29) uBytes uByte uStr x57.rd (by rw [ordL_len, hbl]) (by kernel_rfl))
  refine yzt 1 ?_
  refine wp_ret ?_
  repeat (first | with_reducible refine sx_thenret ?_ | with_reducible refine sx_blockret ?_)
  refine yret (.string (strOf (ordL f.ord bs))) (res1 Tryd.results75 rvt) ?_
  exact ⟨rfl, (bthru (bthru (bthru (bthru (bthru (bthru hbV1 hbV2) hbV3) hbV4) hbV5) hbV6) hbV9)⟩
end Go.Proofs.YtcipdimogodndaaDoor

namespace Go.Slip

structure Pt where
  neg : Bool
  e : Nat
  x : Nat
def Fm.fr (f : Fm) (d : Dv) : Nat := d.m * 2 ^ (d.e - wid f.g * stepK d f.g).toNat
def Fm.numP (f : Fm) (d : Dv) : Pt :=
  if f.fam = 2 then ⟨d.neg, (stepK d f.g - f.g.lo).toNat, f.fr d⟩
  else if (blen (f.fr d) : Int) = f.g.digs then ⟨d.neg, (stepK d f.g - f.g.lo).toNat + 1, if f.ext then f.fr d else f.fr d - 2 ^ f.F⟩
  else ⟨d.neg, (stepK d f.g - f.g.lo).toNat, f.fr d⟩
def Fm.encP (f : Fm) (cls : Nat) (g : Bool) (d : Dv) : Pt :=
  if cls = 2 then f.numP d
  else if cls = 3 then ⟨g, 2 ^ f.E - 1, if f.ext then 2 ^ 63 else 0⟩
  else if cls = 4 then ⟨g, 2 ^ f.E - 1, if f.ext then 2 ^ 63 + 2 ^ 62 else 2 ^ (f.F - 1)⟩
  else if cls = 5 then ⟨true, 0, 0⟩
  else ⟨g, 0, 0⟩
def Fm.strP (f : Fm) (p : Pt) : List Nat := f.str p.neg p.e p.x

structure NumF (f : Fm) (d : Dv) : Prop where
  k1 : f.g.lo ≤ stepK d f.g
  k2 : stepK d f.g ≤ f.g.hi
  e0 : 0 ≤ d.e - wid f.g * stepK d f.g
  e1 : d.e - wid f.g * stepK d f.g ≤ 484
  lt : f.fr d < 2 ^ (wid f.g * f.g.digs.toNat)
  ne : f.fr d ≠ 0
  bl : (blen (f.fr d) : Int) ≤ wid f.g * f.g.digs
  low : f.fam ≠ 2 → (blen (f.fr d) : Int) ≠ f.g.digs → stepK d f.g = f.g.lo ∧ f.fam = 1

theorem numF_of {f : Fm} (G : GoodF f) {d : Dv} (hin : inGridD d f.g = true) (h0 : d.m ≠ 0) : NumF f d := by
  have hg := goodG_of G.g
  obtain ⟨a1, a2, a3, a4⟩ := step_bd hg hin h0
  have hd1 := hg.d1
  have wp := wid_pos f.g
  obtain ⟨D, hD⟩ : ∃ D : Nat, f.g.digs = D := ⟨f.g.digs.toNat, by omega⟩
  have hDt : f.g.digs.toNat = D := by omega
  have hbl : (blen (f.fr d) : Int) = topD d - wid f.g * stepK d f.g := by
    unfold Fm.fr
    rw [blen_shift (by omega)]
    unfold topD
    omega
  have hpos : f.fr d ≠ 0 := by
    unfold Fm.fr
    have := Nat.mul_pos (show 0 < d.m by omega) (Nat.pow_pos (n := (d.e - wid f.g * stepK d f.g).toNat) (show 0 < 2 by omega))
    omega
  have hb := ediv_bd (topD d - 1) (wid f.g) (by omega)
  have eU : upK d (wid f.g) D = (topD d - 1) / (wid f.g : Int) - D + 1 := rfl
  have eS : stepK d f.g = max f.g.lo (upK d (wid f.g) f.g.digs.toNat) := rfl
  rw [hDt] at eS
  have hle : upK d (wid f.g) D ≤ stepK d f.g := by omega
  have hmul : (wid f.g : Int) * upK d (wid f.g) D ≤ wid f.g * stepK d f.g := Int.mul_le_mul_of_nonneg_left hle (by omega)
  have eK : (wid f.g : Int) * upK d (wid f.g) D = wid f.g * ((topD d - 1) / (wid f.g : Int)) - wid f.g * D + wid f.g := by rw [eU]; grind
  have hbD : (blen (f.fr d) : Int) ≤ wid f.g * f.g.digs := by rw [hD]; omega
  have ewD : ((wid f.g * D : Nat) : Int) = wid f.g * D := Int.natCast_mul _ _
  refine ⟨a3, a4, by omega, by omega, ?_, hpos, hbD, fun hf hn => ?_⟩
  · rw [hDt]
    refine (blen_le _ _).1 ?_
    rw [hD] at hbD
    omega
  · have hw : wid f.g = 1 := by rw [G.w, if_neg hf]
    rw [hw] at hbl eU
    have hu : ¬ stepK d f.g = upK d 1 D := by
      intro h
      apply hn
      rw [hbl, h, eU, hD]
      have : (topD d - 1) / ((1 : Nat) : Int) = topD d - 1 := by simp
      omega
    rw [hw] at eS
    have hlo : stepK d f.g = f.g.lo := by omega
    refine ⟨hlo, ?_⟩
    have hlt : upK d 1 D < f.g.lo := by omega
    unfold inGridD at hin
    rw [if_neg h0, hDt, hw] at hin
    split at hin
    · simp at hin
    · have hgr := G.grad
      by_cases hf1 : f.fam = 1
      · exact hf1
      · rw [decide_eq_false hf1] at hgr
        rw [hgr] at hin
        simp at hin

theorem digs_hid {f : Fm} (G : GoodF f) (hf : f.fam ≠ 2) : (f.ext = false ∧ f.g.digs = f.F + 1) ∨ (f.ext = true ∧ f.g.digs = f.F ∧ f.F = 64) := by
  cases h : f.ext with
  | false => exact .inl ⟨rfl, G.d1 hf h⟩
  | true => have := G.ext h; exact .inr ⟨rfl, by omega, this.2.1⟩

theorem numP_lt {f : Fm} (G : GoodF f) {d : Dv} (N : NumF f d) : (f.numP d).e < 2 ^ f.E ∧ (f.numP d).x < 2 ^ f.F := by
  have hE1 : (2 : Nat) ^ 7 ≤ 2 ^ f.E := Nat.pow_le_pow_right (by omega) G.e1
  have h1 := N.k1
  have h2 := N.k2
  have hF2 := N.lt
  have hdd := G.d2
  have hw := G.w
  unfold Fm.numP
  by_cases hf : f.fam = 2
  · rw [if_pos hf]
    have := G.hi2 hf
    rw [hw, if_pos hf, show 4 * f.g.digs.toNat = f.F by have := hdd hf; omega] at hF2
    exact ⟨by simp only; omega, hF2⟩
  · rw [if_neg hf]
    rw [hw, if_neg hf, Nat.one_mul] at hF2
    have hhi : f.g.hi + 2 ≤ f.g.lo + (2 ^ f.E : Nat) := by
      have h3 := G.hi1
      have h4 := G.hi3
      have h5 := G.fam
      omega
    rcases digs_hid G hf with ⟨he, hd⟩ | ⟨he, hd, h64⟩
    · rw [show f.g.digs.toNat = f.F + 1 by omega, Nat.pow_succ] at hF2
      by_cases hb : (blen (f.fr d) : Int) = f.g.digs
      · rw [if_pos hb, if_neg (by simp [he])]
        exact ⟨by simp only; omega, by simp only; omega⟩
      · rw [if_neg hb]
        refine ⟨by simp only; omega, ?_⟩
        have hbl := N.bl
        rw [hw, if_neg hf] at hbl
        show f.fr d < 2 ^ f.F
        exact (blen_le _ _).1 (by omega)
    · rw [show f.g.digs.toNat = f.F by omega] at hF2
      by_cases hb : (blen (f.fr d) : Int) = f.g.digs
      · rw [if_pos hb, if_pos he]
        exact ⟨by simp only; omega, hF2⟩
      · rw [if_neg hb]
        exact ⟨by simp only; omega, hF2⟩

theorem encP_lt {f : Fm} (G : GoodF f) {cls : Nat} {g : Bool} {d : Dv} (N : cls = 2 → NumF f d) : (f.encP cls g d).e < 2 ^ f.E ∧ (f.encP cls g d).x < 2 ^ f.F := by
  have h0 : 0 < 2 ^ f.E := Nat.pow_pos (by omega)
  have h1 : 0 < 2 ^ f.F := Nat.pow_pos (by omega)
  have hF := G.f1
  have h2 : 2 ^ (f.F - 1) < 2 ^ f.F := Nat.pow_lt_pow_right (by omega) (by omega)
  have h3 : f.ext = true → 2 ^ f.F = 2 ^ 64 := fun h => by rw [(G.ext h).2.1]
  unfold Fm.encP
  by_cases c2 : cls = 2
  · rw [if_pos c2]; exact numP_lt G (N c2)
  · rw [if_neg c2]
    by_cases c3 : cls = 3
    · rw [if_pos c3]
      refine ⟨by simp only; omega, ?_⟩
      simp only
      split
      · rename_i h; rw [h3 h]; omega
      · exact h1
    · rw [if_neg c3]
      by_cases c4 : cls = 4
      · rw [if_pos c4]
        refine ⟨by simp only; omega, ?_⟩
        simp only
        split
        · rename_i h; rw [h3 h]; omega
        · exact h2
      · rw [if_neg c4]
        split
        · exact ⟨h0, h1⟩
        · exact ⟨h0, h1⟩

theorem bare_sign (g : Bool) (m : Nat) (e : Int) : (if g then dMinus (bare ⟨false, m, e⟩) else bare ⟨false, m, e⟩) = bare ⟨g, m, e⟩ := by
  cases g with
  | false => rfl
  | true =>
    rw [if_pos rfl]
    by_cases h : m = 0
    · subst h; rfl
    · unfold bare dMinus
      rw [if_neg h, if_neg h]
      have h1 := tz_spec m (by omega)
      have h2 : 0 < m / 2 ^ tz m := by
        rcases Nat.eq_zero_or_pos (m / 2 ^ tz m) with k | k
        · rw [k] at h1; simp at h1
        · exact k
      simp [h2]

end Go.Slip

namespace Go.Proofs.YtcipdimogodndaaDoor
open Go.RowKit Go.Slip

def GivesDB (w : World) (base : Nat) (d : Dv) (b : Bool) (en : Ending) (w' : World) : Prop :=
  ∃ p c, en = .returned (.tuple #[.agg #[.bool d.neg, .slice p (dig B32 d.m).length c, .int .i64 d.e], .bool b]) ∧ Own w' base .u32 91 p c (dig B32 d.m) ∧ Below w.heap.size w w'

end Go.Proofs.YtcipdimogodndaaDoor

namespace Go.Proofs.YtcipdimogodndaaDoor
open Go.RowKit Go.Slip

set_option maxHeartbeats 1000000 in
theorem width_any (g : Gd) (w : World) :
    Calls Tryd.prog 103 #[.agg #[.int .i64 g.rad, .int .i64 g.digs, .int .i64 g.lo, .int .i64 g.hi, .bool g.grad]] w fun e w' => e = .returned (.int .i64 (wid g : Nat)) ∧ Below w.heap.size w w' := by
  obtain ⟨rad, digs, lo, hi, grad⟩ := g
  simp only
  unfold wid
  simp only
  have hb : Below w.heap.size w (w.alloc (.cells #[.int .i64 rad, .int .i64 digs, .int .i64 lo, .int .i64 hi, .bool grad] 29)) := below_lay1 _ _
  by_cases h : rad = 16
  · subst h
    go_enter Tryd.func103, Tryd.ntmps103
    go_wp2
    go_ret
    exact ⟨by simp, hb⟩
  · have h1 : (rad == 16) = false := beq_eq_false_iff_ne.2 h
    rw [if_neg h]
    clear h
    go_enter Tryd.func103, Tryd.ntmps103
    go_wp2
    go_ret
    exact ⟨rfl, hb⟩

theorem floor_ediv {n : Int} {d : Nat} (hd : 1 ≤ d) (_h : n < 0) : -(((d : Int) - 1 - n) / d) = n / d := by
  have h1 := ediv_bd n d hd
  have h2 := ediv_bd ((d : Int) - 1 - n) d hd
  have hp : (0 : Int) < d := by omega
  generalize n / (d : Int) = x at *
  generalize ((d : Int) - 1 - n) / (d : Int) = y at *
  have h3 : (d : Int) * (x + y) < d := by rw [Int.mul_add]; omega
  have h4 : (d : Int) * (-1) < d * (x + y) := by rw [Int.mul_add]; omega
  have h5 := Int.lt_of_mul_lt_mul_left h4 (by omega)
  have h6 : (d : Int) * (x + y) < d * 1 := by omega
  have h7 := Int.lt_of_mul_lt_mul_left h6 (by omega)
  omega

set_option maxHeartbeats 1000000 in
theorem gfloor_any (n : Int) (d : Nat) (w : World) (hn : -1000000000 ≤ n ∧ n ≤ 1000000000) (hd : 1 ≤ d) (hd2 : d ≤ 1000) :
    Calls Tryd.prog 104 #[.int .i64 n, .int .i64 d] w fun e w' => e = .returned (.int .i64 (n / (d : Int))) ∧ w = w' := by
  obtain ⟨hn1, hn2⟩ := hn
  have t1 : ((d : Int) == 0) = false := beq_eq_false_iff_ne.2 (by omega)
  by_cases h : n < 0
  · have hq := Int.ediv_le_self (a := (d : Int) - 1 - n) (d : Int) (by omega)
    have hq0 := Int.ediv_nonneg (a := (d : Int) - 1 - n) (b := (d : Int)) (by omega) (by omega)
    rw [← floor_ediv hd h]
    go_enter Tryd.func104, Tryd.ntmps104
    go_wp2
    go_ret
    exact ⟨rfl, rfl⟩
  · have hq := Int.ediv_le_self (a := n) (d : Int) (by omega)
    have hq0 := Int.ediv_nonneg (a := n) (b := (d : Int)) (by omega) (by omega)
    go_enter Tryd.func104, Tryd.ntmps104
    go_wp2
    go_ret
    exact ⟨rfl, rfl⟩

end Go.Proofs.YtcipdimogodndaaDoor

namespace Go.Proofs.YtcipdimogodndaaDoor
open Go.RowKit Go.Slip

theorem len_shl' (a N n : Nat) (h : (dig B32 a).length ≤ n) : (dig B32 (a * 2 ^ N)).length ≤ n + (N / 32 + 1) := Nat.le_trans (len_shl a N) (by omega)
theorem numP_len {a : Nat} {n : Int} (h : (dig B32 a).length ≤ 1000000) (hn : -10000000 ≤ n ∧ n ≤ 10000000) : (dig B32 (numP a n)).length ≤ 1400000 := by
  have := len_shl' a n.toNat _ h; unfold numP; omega
theorem denP_len {a : Nat} {n : Int} (h : (dig B32 a).length ≤ 1000000) (hn : -10000000 ≤ n ∧ n ≤ 10000000) : (dig B32 (denP a n)).length ≤ 1400000 := by
  have := len_shl' a (-n).toNat _ h; unfold denP; omega

theorem gof_one (w : World) : Calls Tryd.prog 96 #[.int .i64 1] w (Gives w .u32 91 (dig B32 1)) := of_any 1 w (by omega)

def Gives3 (w : World) (q0 : Option Addr) (x y z : Nat) (en : Ending) (w' : World) : Prop :=
  ∃ p c q d r f, en = .returned (.tuple #[.slice p (dig B32 x).length c, .slice q (dig B32 y).length d, .slice r (dig B32 z).length f]) ∧ Own w' w.heap.size .u32 91 p c (dig B32 x) ∧ Own w' w.heap.size .u32 91 q d (dig B32 y) ∧ Rd w' .u32 r (dig B32 z) ∧ (r = q0 ∨ (0 < (dig B32 z).length → w.heap.size ≤ blk r)) ∧ Below w.heap.size w w'

set_option maxHeartbeats 1000000 in
theorem scaled_any (p q : Option Addr) (m k c d : Nat) (a b : Nat) (n : Int) (w : World) (hp : Rd w .u32 p (dig B32 a)) (hq : Rd w .u32 q (dig B32 b)) (hm : m = (dig B32 a).length) (hk : k = (dig B32 b).length)
    (hl : (dig B32 a).length ≤ 1000000) (hl2 : (dig B32 b).length ≤ 1000000) (hb : 0 < b) (hn : -10000000 ≤ n ∧ n ≤ 10000000) :
    Calls Tryd.prog 105 #[.slice p m c, .slice q k d, .int .i64 n] w (Gives3 w q (qP a b n) (rP a b n) (denP b n)) := by
  subst hm hk
  have l1 := numP_len hl hn
  have l2 := denP_len hl2 hn
  have h0 := denP_pos hb n
  unfold qP rP
  by_cases h : 0 ≤ n
  · obtain ⟨N, rfl⟩ : ∃ N : Nat, n = N := ⟨n.toNat, by omega⟩
    have e1 : denP b (N : Int) = b := by unfold denP; rw [show (-(N : Int)).toNat = 0 by omega, Nat.pow_zero, Nat.mul_one]
    have HN := Lib.hid (show numP a (N : Int) = a * 2 ^ N by unfold numP; rw [Int.toNat_natCast])
    rw [e1] at l2 h0 ⊢
    clear e1
    generalize numP a (N : Int) = x at *
    go_enter Tryd.func105, Tryd.ntmps105
    go_wp2_with fail
    ((with_reducible refine (shl_any p _ c a N _ hp rfl (by omega) (by omega)).mono ?_))
    rintro e1 w1 ⟨p1, c1, rfl, ho1, hb1⟩
    replace hp := hp.past hb1
    replace hq := hq.past hb1
    have hs1 := hb1
    rw [← HN.out] at ho1 ⊢
    go_wp2_with fail
    ((with_reducible refine (limbDiv_any p1 q _ _ c1 d x b _ ho1.rd hq rfl rfl (by omega) (by omega) h0).mono ?_))
    rintro e2 w2 ⟨p2, c2, q2, d2, rfl, ho2, ho3, hb2, -⟩
    replace hp := hp.past hb2
    replace hq := hq.past hb2
    replace ho1 := ho1.past hb2
    have hs2 := hs1.trans (hb2.mono hs1.size)
    go_wp2_with fail
    refine bodyPost_ret (v := .tuple #[.slice p2 (dig B32 (x / b)).length c2, .slice q2 (dig B32 (x % b)).length d2, .slice q (dig B32 b).length d]) (by simp [results, Tryd.results105, go_sem]) rfl ?_
    exact ⟨p2, c2, q2, d2, q, d, rfl, ho2.mono hs1.size, ho3.mono hs1.size, hq, .inl rfl, hs2⟩
  · obtain ⟨N, rfl⟩ : ∃ N : Nat, n = -(N : Int) := ⟨(-n).toNat, by omega⟩
    have e1 : numP a (-(N : Int)) = a := by unfold numP; rw [show (-(N : Int)).toNat = 0 by omega, Nat.pow_zero, Nat.mul_one]
    have HN := Lib.hid (show denP b (-(N : Int)) = b * 2 ^ N by unfold denP; rw [show (-(-(N : Int))).toNat = N by omega])
    rw [e1] at l1 ⊢
    clear e1
    generalize denP b (-(N : Int)) = x at *
    go_enter Tryd.func105, Tryd.ntmps105
    go_wp2_with fail
    ((with_reducible refine (shl_any q _ d b N _ hq rfl (by omega) (by omega)).mono ?_))
    rintro e1 w1 ⟨p1, c1, rfl, ho1, hb1⟩
    replace hp := hp.past hb1
    replace hq := hq.past hb1
    have hs1 := hb1
    rw [← HN.out] at ho1 ⊢
    go_wp2_with fail
    ((with_reducible refine (limbDiv_any p p1 _ _ c c1 a x _ hp ho1.rd rfl rfl (by omega) (by omega) h0).mono ?_))
    rintro e2 w2 ⟨p2, c2, q2, d2, rfl, ho2, ho3, hb2, -⟩
    replace hp := hp.past hb2
    replace hq := hq.past hb2
    replace ho1 := ho1.past hb2
    have hs2 := hs1.trans (hb2.mono hs1.size)
    go_wp2_with fail
    refine bodyPost_ret (v := .tuple #[.slice p2 (dig B32 (a / x)).length c2, .slice q2 (dig B32 (a % x)).length d2, .slice p1 (dig B32 x).length c1]) (by simp [results, Tryd.results105, go_sem]) rfl ?_
    exact ⟨p2, c2, q2, d2, p1, c1, rfl, ho2.mono hs1.size, ho3.mono hs1.size, ho1.rd, .inr fun h => (ho1.blk_lt (ho1.rd.solid h).1).1, hs2⟩

end Go.Proofs.YtcipdimogodndaaDoor

namespace Go.Slip
open Go.RowKit Go.MapKept

section
variable {P : Program} {w : World}

theorem run_insert_new {mt kt vt : TypeId} (hm : P.underlying mt = some (.map kt vt)) (hk : P.underlying kt = some (.int .i64)) (es : Array MapEntry) (clock : Nat) (k : Int) (v : Value)
    (hf : Instr.findNow (.int .i64) (.int .i64 k) es.toList 0 = some none) :
    (Instr.mapUpdate mt (.map (some w.heap.size)) (.int .i64 k) v).run P (w.alloc (.map es clock)) = .ok () (w.alloc (.map (es.push ⟨.int .i64 k, v, clock⟩) (clock + 1))) := by
  have hb : (w.alloc (.map es clock)).heap[w.heap.size]? = some (.map es clock) := by show (w.heap.push _)[_]? = _; simp
  simp [Instr.mapUpdate, run_underlying hm, MapKept.run_getObj_map hb, run_checkKey hk (show IsKey (.int .i64) (.int .i64 k) from rfl), run_findKey hk hf, run_setObj_map _ hb, Result.andThen]
  have e : (w.heap.push (.map es clock)).setIfInBounds w.heap.size (.map (es.push ⟨.int .i64 k, v, clock⟩) (clock + 1)) = w.heap.push (.map (es.push ⟨.int .i64 k, v, clock⟩) (clock + 1)) := by
    apply Array.ext'
    simp
  show World.mk _ _ _ _ _ = World.mk _ _ _ _ _
  congr 1

theorem run_lookup_int {mt kt vt : TypeId} {b : Nat} {es : Array MapEntry} {clock : Nat} (hm : P.underlying mt = some (.map kt vt)) (hk : P.underlying kt = some (.int .i64)) (hb : w.heap[b]? = some (.map es clock)) (k : Int)
    {i : Nat} {v : Value} (hf : Instr.findNow (.int .i64) (.int .i64 k) es.toList 0 = some (some (i, v))) :
    (Instr.lookup mt (.map (some b)) (.int .i64 k) false).run P w = .ok v w := by
  simp [Instr.lookup, run_underlying hm, MapKept.run_getObj_map hb, run_checkKey hk (show IsKey (.int .i64) (.int .i64 k) from rfl), run_findKey hk hf, Result.andThen]

theorem wpl_insert {ops : Array Oper} {rest : List Oper} {o : Oper} {a : Act} {Q : Exit → Act → World → Prop}
    (hg : o.guard = none) (m x v : Operand) (t : TypeId) (hop : o.op = Op.insert t m x v) {kt vt : TypeId} (hm : P.underlying t = some (.map kt vt)) (hk : P.underlying kt = some (.int .i64)) {es : Array MapEntry} {clock : Nat} {k : Int} {val : Value}
    (h1 : a.eval m = .map (some w.heap.size)) (h2 : a.eval x = .int .i64 k) (h3 : a.eval v = val) (hf : Instr.findNow (.int .i64) (.int .i64 k) es.toList 0 = some none)
    (h : wpList P ops Q rest (a.put o.dst undef) (w.alloc (.map (es.push ⟨.int .i64 k, val, clock⟩) (clock + 1)))) : wpList P ops Q (o :: rest) a (w.alloc (.map es clock)) := by
  refine wpList_plain hg fun K' hK' => ?_
  unfold Oper.wp
  simp [execOp, hop, h1, h2, h3, run_insert_new hm hk es clock k val hf, Result.andThen]
  exact hK' _ _ h
end

end Go.Slip

namespace Go.Proofs.YtcipdimogodndaaDoor
open Go.RowKit Go.Slip

def waysMap : Array MapEntry := #[⟨.int .i64 1, .func (.func 130) #[] #[], 0⟩, ⟨.int .i64 2, .func (.func 131) #[] #[], 1⟩, ⟨.int .i64 3, .func (.func 132) #[] #[], 2⟩, ⟨.int .i64 4, .func (.func 133) #[] #[], 3⟩, ⟨.int .i64 5, .func (.func 134) #[] #[], 4⟩]

theorem tyWays : Tryd.prog.underlying 160 = some (.map 3 159) := by kernel_rfl

def Ways (w : World) (b : Nat) : Prop := w.heap[b]? = some (.map waysMap 5)
theorem Ways.past {w w' : World} {b : Nat} (h : Ways w b) (hb : Below w.heap.size w w') : Ways w' b := (hb.block b (Array.getElem?_eq_some_iff.1 h).1).trans h

set_option maxHeartbeats 1000000 in
theorem ups_any (w : World) :
    Calls Tryd.prog 102 #[] w fun e w' => e = .returned (.map (some w.heap.size)) ∧ Ways w' w.heap.size ∧ Below w.heap.size w w' := by
  have hmm := @run_makeMap Tryd.prog
  go_enter Tryd.func102, Tryd.ntmps102
  go_wp2_with (refine wpl_insert rfl _ _ _ _ rfl tyWays Tryd.underlying3 rfl rfl rfl rfl ?_)
  go_ret
  exact ⟨rfl, by show (w.heap.push _)[_]? = _; simp [waysMap], (Below.refl _ _).alloc (Nat.le_refl _) _⟩

def wayF (k : Int) : Value := if k = 1 then .func (.func 130) #[] #[] else if k = 2 then .func (.func 131) #[] #[] else if k = 3 then .func (.func 132) #[] #[]
  else if k = 4 then .func (.func 133) #[] #[] else if k = 5 then .func (.func 134) #[] #[] else .nilFunc

theorem findWay_in {k : Int} (h1 : 1 ≤ k) (h2 : k ≤ 5) : ∃ i, Instr.findNow (.int .i64) (.int .i64 k) waysMap.toList 0 = some (some (i, wayF k)) := by
  obtain rfl | rfl | rfl | rfl | rfl : k = 1 ∨ k = 2 ∨ k = 3 ∨ k = 4 ∨ k = 5 := by omega
  · exact ⟨0, rfl⟩
  · exact ⟨1, rfl⟩
  · exact ⟨2, rfl⟩
  · exact ⟨3, rfl⟩
  · exact ⟨4, rfl⟩

theorem look_in {w : World} {b : Nat} (h : Ways w b) {k : Int} (h1 : 1 ≤ k) (h2 : k ≤ 5) :
    (Instr.lookup 160 (.map (some b)) (.int .i64 k) false).run Tryd.prog w = .ok (wayF k) w := by
  obtain ⟨i, hi⟩ := findWay_in h1 h2
  exact run_lookup_int tyWays Tryd.underlying3 h k hi

end Go.Proofs.YtcipdimogodndaaDoor

namespace Go.Proofs.YtcipdimogodndaaDoor
open Go.RowKit Go.Slip

set_option maxHeartbeats 400000 in
theorem ups1_any (neg odd : Bool) (half : Int) (w : World) :
    Calls Tryd.prog 130 #[.bool neg, .bool odd, .int .i64 half] w fun e w' => e = .returned (.bool (awayP 1 neg odd half)) ∧ w' = w := by
  unfold awayP
  simp only [if_true]
  by_cases h : 0 < half
  · go_enter Tryd.func130, Tryd.ntmps130
    go_wp2
    go_ret
    exact ⟨by simp [h], rfl⟩
  · by_cases h0 : half = 0
    · subst h0
      cases odd
      · go_enter Tryd.func130, Tryd.ntmps130
        go_wp2
        go_ret
        exact ⟨rfl, rfl⟩
      · go_enter Tryd.func130, Tryd.ntmps130
        go_wp2
        go_ret
        exact ⟨rfl, rfl⟩
    · have t0 : (half == 0) = false := beq_eq_false_iff_ne.2 h0
      have H := Lib.hid h0
      clear h0
      go_enter Tryd.func130, Tryd.ntmps130
      go_wp2
      go_ret
      exact ⟨by simp [H.out, show ¬ 0 < half from by omega], rfl⟩

set_option maxHeartbeats 400000 in
theorem ups2_any (neg odd : Bool) (half : Int) (w : World) :
    Calls Tryd.prog 131 #[.bool neg, .bool odd, .int .i64 half] w fun e w' => e = .returned (.bool (awayP 2 neg odd half)) ∧ w' = w := by
  have e : awayP 2 neg odd half = decide (0 ≤ half) := rfl
  rw [e]
  clear e
  by_cases h : 0 ≤ half
  · go_enter Tryd.func131, Tryd.ntmps131
    go_wp2
    go_ret
    exact ⟨by simp [h], rfl⟩
  · go_enter Tryd.func131, Tryd.ntmps131
    go_wp2
    go_ret
    exact ⟨by simp; omega, rfl⟩

set_option maxHeartbeats 400000 in
theorem ups3_any (neg odd : Bool) (half : Int) (w : World) :
    Calls Tryd.prog 132 #[.bool neg, .bool odd, .int .i64 half] w fun e w' => e = .returned (.bool (awayP 3 neg odd half)) ∧ w' = w := by
  have e : awayP 3 neg odd half = false := rfl
  rw [e]
  clear e
  go_enter Tryd.func132, Tryd.ntmps132
  go_wp2
  go_ret
  exact ⟨rfl, rfl⟩

set_option maxHeartbeats 400000 in
theorem ups4_any (neg odd : Bool) (half : Int) (w : World) :
    Calls Tryd.prog 133 #[.bool neg, .bool odd, .int .i64 half] w fun e w' => e = .returned (.bool (awayP 4 neg odd half)) ∧ w' = w := by
  have e : awayP 4 neg odd half = !neg := rfl
  rw [e]
  clear e
  go_enter Tryd.func133, Tryd.ntmps133
  go_wp2
  go_ret
  exact ⟨rfl, rfl⟩

set_option maxHeartbeats 400000 in
theorem ups5_any (neg odd : Bool) (half : Int) (w : World) :
    Calls Tryd.prog 134 #[.bool neg, .bool odd, .int .i64 half] w fun e w' => e = .returned (.bool (awayP 5 neg odd half)) ∧ w' = w := by
  have e : awayP 5 neg odd half = neg := rfl
  rw [e]
  clear e
  go_enter Tryd.func134, Tryd.ntmps134
  go_wp2
  go_ret
  exact ⟨rfl, rfl⟩

theorem wayF_spec {k : Int} (h1 : 1 ≤ k) (h2 : k ≤ 5) :
    ∃ f, wayF k = .func (.func f) #[] #[] ∧ (∀ (neg odd : Bool) (half : Int) (w : World), Calls Tryd.prog f #[.bool neg, .bool odd, .int .i64 half] w fun e w' => e = .returned (.bool (awayP k neg odd half)) ∧ w' = w) ∧ ∀ args w, (callFunc f args).run Tryd.prog w = .ok (.enter f args) w := by
  obtain rfl | rfl | rfl | rfl | rfl : k = 1 ∨ k = 2 ∨ k = 3 ∨ k = 4 ∨ k = 5 := by omega
  · exact ⟨_, rfl, ups1_any, fun _ _ => by kernel_rfl⟩
  · exact ⟨_, rfl, ups2_any, fun _ _ => by kernel_rfl⟩
  · exact ⟨_, rfl, ups3_any, fun _ _ => by kernel_rfl⟩
  · exact ⟨_, rfl, ups4_any, fun _ _ => by kernel_rfl⟩
  · exact ⟨_, rfl, ups5_any, fun _ _ => by kernel_rfl⟩

end Go.Proofs.YtcipdimogodndaaDoor
