/- codec: Encode.
   The reference's DecodeOf.
   What the laws of chapter 5 begin with: codecBegun.
   The law CodecEncodes: the row.
   What is encoded is decoded as it was: what Encode and Decode tell of each other.
   The law CodecBack: the row.
   Arithmetic in a format: which results a format can hold, and how they are encoded.
   A walk that reckons: a box that a call hands out; slices of structs. No program is in sight here.
   A walk that reckons: the library's table beside a box that is written.
   arith: raise, width, zero, infinite, isOff ..
   arith: Nothing.
   arith: the greatest number.
   arith: what is over.
   arith: what is over, in a format that has what is infinite.
   arith: over; place.
   arith: place.
   arith: fit, Number, raw.
   arith: what a value at hand is; Number, raw, lost.
   arith: off, of some values.
   arith: sums.
   arith: add, product. -/
import Derived.Deep.LoopGhost
import Derived.Deep.RegionHeld3
import Derived.Outline
import Derived.Test.YtlcdfnaaenibgaaGreatDoorZb1
import Derived.Test.YtlcdfnaaenibgaaGreatDoorZb2
import Derived.Test.YtlcdfnaaenibgaaGreatDoorZb3
import Derived.Test.YtlcdfnaaenibgaaGreatDoorZb4
import Derived.Test.YtlcdfnaaenibgaaGreatDoorZb5
import Derived.Test.YtlcdfnaaenibgaaGreatDoorZb6
set_option maxHeartbeats 8000000
set_option maxRecDepth 100000
namespace Go.Proofs.YtlcdfnaaenibgaaGreatDoor
open Go.RowKit Go.Slip

def numD (f : Fm) (a : Din) : Dv := bare ⟨a.g, val B32 a.xs, wid f.g * a.e⟩
def a0k (f : Fm) (cls : Int) (a : Din) : Int :=
 if cls < 1 ∨ 5 < cls then 6
 else if b0r a.xs ≠ 0 then b0r a.xs
 else if ((cls = 3 ∨ cls = 4) ∧ f.inf = false) ∨ (cls = 5 ∧ f.res = false) then 5
 else if cls = 2 then
  if a.e < -20000 ∨ 20000 < a.e then 3
  else if a.xs.length = 0 ∨ b0t (numD f a) f.g = false then 4 else 0
 else if 0 < a.xs.length ∨ a.e ≠ 0 ∨ (a.g = true ∧ (4 ≤ cls ∨ f.res = true)) then 4 else 0
def n0k (f : Fm) (cls : Int) (a : Din) : ByteArray := b0s (f.strP (f.encP cls.toNat a.g (numD f a)))
def r0f (w : World) (er : Int) (s : ByteArray) (en : Ending) (w' : World) : Prop :=
 en = .returned (.tuple #[.string (if er = 0 then s else b0s []), .int .i64 er]) ∧ Below w.heap.size w w'
theorem a0m {w w' : World} {er r : Int} {s : ByteArray} {en : Ending} (h : er = r) (hr : r ≠ 0) (he : en = .returned (.tuple #[.string ⟨#[]⟩, .int .i64 r])) (hb : Below w.heap.size w w') : r0f w er s en w' := by
 subst h
 exact ⟨by rw [he, if_neg hr]; rfl, hb⟩
theorem d0b {w w' : World} {er : Int} {s t : ByteArray} {en : Ending} (h : er = 0) (hs : s = t) (he : en = .returned (.tuple #[.string t, .int .i64 0])) (hb : Below w.heap.size w w') : r0f w er s en w' := by
 subst h hs
 exact ⟨by rw [he, if_pos rfl], hb⟩

theorem g1l {f : Fm} {w : World} {a : Din} (ha : InD w a) (h : b0r a.xs = 0) (he : -20000 ≤ a.e ∧ a.e ≤ 20000) : (dig B32 (numD f a).m).length ≤ 1200 ∧ -100000 ≤ (numD f a).e ∧ (numD f a).e ≤ 150000 := by
 obtain ⟨h1, h2⟩ := i0a ha.lt h
 have hl : (dig B32 (val B32 a.xs)).length ≤ 1200 := by rw [← h1]; exact h2
 have k1 := o0b a0a (⟨a.g, val B32 a.xs, wid f.g * a.e⟩ : Dv)
 have wp := b0n f.g
 have hmu := q0u (wd := wid f.g) (k := a.e) (B := 20000) wp.2 he
 refine ⟨Nat.le_trans k1 hl, ?_⟩
 unfold numD
 by_cases h0 : val B32 a.xs = 0
 · rw [h0, p0t]; simp
 · have ht := f0o (m := val B32 a.xs) (by omega)
   have hb := d0e (val B32 a.xs)
   unfold bare
   rw [if_neg h0]
   simp only
   omega

theorem c1t (f : Fm) (g : Bool) (E : Int) (e : Nat) (hE : E = e) (w : World) (G : c0t f) (he : e < 2 ^ f.E) :
 Calls Tryz.prog 149 #[.agg #[.int .i64 (f.size : Int), .int .i64 (f.E : Int), .int .i64 (f.F : Int), .int .i64 f.g.rad, .int .i64 f.g.digs, .int .i64 f.g.lo, .int .i64 f.g.hi, .bool f.g.grad, .bool f.hid, .bool f.inf, .bool f.res, .func (.func (ordF f)) #[] #[]], .agg #[.bool g, .int .i64 E, .slice none 0 0]] w fun en w' => en = .returned (.string (b0s (f.str g e 0))) ∧ Below w.heap.size w w' := by
 have := p0d f g E e 0 hE none 0 w G (by rw [a0c]; exact Rd.nil _ _ _) he (Nat.pow_pos (by omega))
 rw [a0c] at this
 exact this

theorem z0y (n : Int) (cls : Int) (a : Din) (w : World) (hn : IsFm n) (ha : InD w a) (hT : TabW w) :
 Calls Tryz.prog 107 #[.int .i64 n, .agg #[.int .i64 cls, .bool a.g, .slice a.p a.xs.length a.c, .int .i64 a.e]] w (r0f w (a0k (fmt n) cls a) (n0k (fmt n) cls a)) := by
 have G := f0j hn
 have HF := fun W => Lib.hid (i0p n hn W)
 generalize fmt n = f at *
 have HR : ∀ (W : World), b0r a.xs = 0 → Rd W .u32 a.p a.xs → -20000 ≤ a.e ∧ a.e ≤ 20000 → TabW W → Hid (Calls Tryz.prog 146 #[.agg #[.int .i64 (f.size : Int), .int .i64 (f.E : Int), .int .i64 (f.F : Int), .int .i64 f.g.rad, .int .i64 f.g.digs, .int .i64 f.g.lo, .int .i64 f.g.hi, .bool f.g.grad, .bool f.hid, .bool f.inf, .bool f.res, .func (.func (ordF f)) #[] #[]], .agg #[.int .i64 cls, .bool a.g, .slice a.p a.xs.length a.c, .int .i64 a.e]] W (f0p W W.heap.size (numD f a))) := by
  intro W h1 h2 h3 h4
  obtain ⟨k1, k2⟩ := i0a ha.lt h1
  have hc := ha.cap
  have := g1j f a.g (val B32 a.xs) a.e cls a.p a.c W (by rw [← k1]; exact h2) (by rw [← k1]; exact hc) (by rw [← k1]; omega) ⟨by omega, by omega⟩ h4
  rw [← k1] at this
  exact Lib.hid this
 have hB : Bare (numD f a) := i0g _
 have hbd := fun h h2 => g1l (f := f) ha h h2
 have hkp := a1y hB (c0g G.g)
 have hxl : 0 < a.xs.length ↔ a.xs.length ≠ 0 := by omega
 have hm0 : b0r a.xs = 0 → a.xs.length ≠ 0 → (numD f a).m ≠ 0 := fun h1 h2 h3 => by
  obtain ⟨k1, _⟩ := i0a ha.lt h1
  have h4 : val B32 a.xs ≠ 0 := fun h => h2 (by rw [k1]; exact (a0e a0a _).2 h)
  unfold numD bare at h3
  rw [if_neg h4] at h3
  simp only at h3
  have := (c0s (val B32 a.xs) (by omega)).2
  rw [h3] at this
  simp at this
 have hige := fun h => b1b (a := numD f a) G.g hB h
 have z2 := G.e2
 have z3 := G.f2
 have z4 := G.f1
 have hsh := o0t (E := f.E) (by omega)
 have h0T : 0 < 2 ^ f.E := Nat.pow_pos (by omega)
 have h0T2 : 2 ^ f.E ≤ 2 ^ 15 := Nat.pow_le_pow_right (by omega) (by omega)
 have HSH := Lib.hid hsh
 have hlen := ha.len
 have hhid : f.inf = true → (f.hid = true ↔ f.ext = false) := fun h => by
  have h1 : f.fam = 1 := by unfold Fm.inf at h; simpa using h
  unfold Fm.hid
  rw [h1]
  cases f.ext <;> simp
 have rd := ha.rd
 unfold n0k
 obtain ⟨d, hD⟩ : ∃ d, numD f a = d := ⟨_, rfl⟩
 rw [hD] at HR hB hbd hkp hm0 hige ⊢
 have e1 : f.encP 1 a.g d = ⟨a.g, 0, 0⟩ := rfl
 have e2 : f.encP 2 a.g d = f.numP d := rfl
 have e3 : f.encP 3 a.g d = ⟨a.g, 2 ^ f.E - 1, if f.ext then 2 ^ 63 else 0⟩ := rfl
 have e4 : f.encP 4 a.g d = ⟨a.g, 2 ^ f.E - 1, if f.ext then 2 ^ 63 + 2 ^ 62 else 2 ^ (f.F - 1)⟩ := rfl
 have e5 : f.encP 5 a.g d = ⟨true, 0, 0⟩ := rfl
 have hF1 : 2 ^ (f.F - 1) < 2 ^ f.F := Nat.pow_lt_pow_right (by omega) (by omega)
 have hF0 : 0 < 2 ^ f.F := Nat.pow_pos (by omega)
 have hx64 : f.ext = true → 2 ^ f.F = 2 ^ 64 := fun h => by rw [(G.ext h).2.1]
 have hext : f.inf = true → f.hid = false → f.ext = true := fun h1 h2 => by
  cases hx : f.ext with
  | true => rfl
  | false => have := (hhid h1).2 hx; rw [h2] at this; cases this
 have hJ := fun (W : World) (g : Bool) (E : Int) (e x : Nat) (hE : E = e) (p : Option Addr) (c : Nat) h h1 h2 => Lib.hid (p0d f g E e x hE p c W G h h1 h2)
 have hJ0 := fun (W : World) (g : Bool) (E : Int) (e : Nat) (hE : E = e) h1 => Lib.hid (c1t f g E e hE W G h1)
 have h63 : (dig B32 (2 ^ 63)).length ≤ 2 := a0p (n := 64) (by omega) (by omega)
 have h62 : (dig B32 (2 ^ 62)).length ≤ 2 := a0p (n := 64) (by omega) (by omega)
 generalize 2 ^ f.E = P at *
 clear hsh ha
 have I := Inv.start w [rdF .u32 a.p a.xs, tabF] ⟨rd, hT, True.intro⟩
 refine a0b [.v (.int .i64 n), .v (.agg #[.int .i64 cls, .bool a.g, .slice a.p a.xs.length a.c, .int .i64 a.e])] I Tryz.func107 ?_
 refine zg I (fun Al W I => (HF W).out) fun Al V Iv hzV hB Kz kz => ?_
 rintro _ W ⟨rfl, hb⟩
 refine ⟨_, rfl, kz _ _ hb fun I => ?_⟩
 clear kz Kz
 rcases Bool.eq_false_or_eq_true (decide (cls < 1)) with f21 | f21
 · refine zb I 21 (decide (cls < 1)) (true) (f21) fun Al W I => ?_
   have hE : a0k f cls a = 6 := by unfold a0k; rw [if_pos (by first | (have := of_decide_eq_true f21; omega) | (have := of_decide_eq_true f25; omega))]
   have hN : (6 : Int) ≠ 0 := by decide
   exact zret I fun Al W I => a0m hE hN rfl I.below
 refine zb I 21 (decide (cls < 1)) (false) (f21) fun Al W I => ?_
 rcases Bool.eq_false_or_eq_true (decide (cls > 5)) with f25 | f25
 · refine zb I 25 (decide (cls > 5)) (true) (f25) fun Al W I => ?_
   have hE : a0k f cls a = 6 := by unfold a0k; rw [if_pos (by first | (have := of_decide_eq_true f21; omega) | (have := of_decide_eq_true f25; omega))]
   have hN : (6 : Int) ≠ 0 := by decide
   exact zret I fun Al W I => a0m hE hN rfl I.below
 refine zb I 25 (decide (cls > 5)) (false) (f25) fun Al W I => ?_
 have c1 : ¬ (cls < 1 ∨ 5 < cls) := by have := of_decide_eq_false f21; have := of_decide_eq_false f25; omega
 refine zg I (fun Al W I => o0c a.p _ a.c a.xs W I.fa.1 rfl hlen) fun Al V Iv hzV hB Kz kz => ?_
 rintro _ W ⟨rfl, hb⟩
 refine ⟨_, rfl, kz _ _ hb fun I => ?_⟩
 clear kz Kz
 rcases Bool.eq_false_or_eq_true ((b0r a.xs) != 0) with f31 | f31
 · refine zb I 31 ((b0r a.xs) != 0) (true) (f31) fun Al W I => ?_
   have hN : b0r a.xs ≠ 0 := bne_iff_ne.1 f31
   have hE : a0k f cls a = b0r a.xs := by unfold a0k; rw [if_neg c1, if_pos hN]
   exact zret I fun Al W I => a0m hE hN rfl I.below
 refine zb I 31 ((b0r a.xs) != 0) (false) (f31) fun Al W I => ?_
 have c2 : b0r a.xs = 0 := by simpa using f31
 rcases Bool.eq_false_or_eq_true (cls == 3) with f35 | f35
 · refine zb I 35 (cls == 3) (true) (f35) fun Al W I => ?_
   rcases Bool.eq_false_or_eq_true (f.inf) with f43 | f43
   · refine zb I 43 (f.inf) (true) (f43) fun Al W I => ?_
     refine zb I 49 (cls == 5) (false) (beq_eq_false_iff_ne.2 (by have := beq_iff_eq.1 f35; omega)) fun Al W I => ?_
     have c3 : ¬ (((cls = 3 ∨ cls = 4) ∧ f.inf = false) ∨ (cls = 5 ∧ f.res = false)) := fun h => by rcases h with ⟨h, k⟩ | ⟨h, k⟩ <;> first | (rw [f43] at k; cases k; done) | (rw [f52] at k; cases k; done) | (have q := beq_iff_eq.1 f35; omega) | (have q := beq_iff_eq.1 f39; omega) | (have q := beq_eq_false_iff_ne.1 f35; have q2 := beq_eq_false_iff_ne.1 f39; omega) | (have q := beq_eq_false_iff_ne.1 f49; omega)
     refine zb I 58 (cls == 2) (false) (beq_eq_false_iff_ne.2 (by have := beq_iff_eq.1 f35; omega)) fun Al W I => ?_
     have c58 : cls ≠ 2 := by first | (have := beq_iff_eq.1 f35; omega) | (have := beq_iff_eq.1 f39; omega) | (have := beq_iff_eq.1 f49; omega) | exact beq_eq_false_iff_ne.1 f58
     rcases Bool.eq_false_or_eq_true (decide ((a.xs.length : Int) > 0)) with f88 | f88
     · refine zb I 88 (decide ((a.xs.length : Int) > 0)) (true) (f88) fun Al W I => ?_
       have hE : a0k f cls a = 4 := by unfold a0k; rw [if_neg c1, if_neg (by omega), if_neg c3, if_neg c58, if_pos (by first | (have := of_decide_eq_true f88; omega) | exact .inr (.inl (bne_iff_ne.1 f92)) | exact .inr (.inr ⟨f96, .inr f103⟩) | exact .inr (.inr ⟨f96, .inl (by first | (have := beq_iff_eq.1 f39; omega) | (have := beq_iff_eq.1 f49; omega))⟩))]
       have hN : (4 : Int) ≠ 0 := by decide
       exact zret I fun Al W I => a0m hE hN rfl I.below
     refine zb I 88 (decide ((a.xs.length : Int) > 0)) (false) (f88) fun Al W I => ?_
     rcases Bool.eq_false_or_eq_true (a.e != 0) with f92 | f92
     · refine zb I 92 (a.e != 0) (true) (f92) fun Al W I => ?_
       have hE : a0k f cls a = 4 := by unfold a0k; rw [if_neg c1, if_neg (by omega), if_neg c3, if_neg c58, if_pos (by first | (have := of_decide_eq_true f88; omega) | exact .inr (.inl (bne_iff_ne.1 f92)) | exact .inr (.inr ⟨f96, .inr f103⟩) | exact .inr (.inr ⟨f96, .inl (by first | (have := beq_iff_eq.1 f39; omega) | (have := beq_iff_eq.1 f49; omega))⟩))]
       have hN : (4 : Int) ≠ 0 := by decide
       exact zret I fun Al W I => a0m hE hN rfl I.below
     refine zb I 92 (a.e != 0) (false) (f92) fun Al W I => ?_
     rcases Bool.eq_false_or_eq_true (a.g) with f96 | f96
     · refine zb I 96 (a.g) (true) (f96) fun Al W I => ?_
       refine zb I 100 (decide (cls ≥ 4)) (false) (decide_eq_false (by have := beq_iff_eq.1 f35; omega)) fun Al W I => ?_
       rcases Bool.eq_false_or_eq_true (f.res) with f103 | f103
       · refine zb I 103 (f.res) (true) (f103) fun Al W I => ?_
         have hE : a0k f cls a = 4 := by unfold a0k; rw [if_neg c1, if_neg (by omega), if_neg c3, if_neg c58, if_pos (by first | (have := of_decide_eq_true f88; omega) | exact .inr (.inl (bne_iff_ne.1 f92)) | exact .inr (.inr ⟨f96, .inr f103⟩) | exact .inr (.inr ⟨f96, .inl (by first | (have := beq_iff_eq.1 f39; omega) | (have := beq_iff_eq.1 f49; omega))⟩))]
         have hN : (4 : Int) ≠ 0 := by decide
         exact zret I fun Al W I => a0m hE hN rfl I.below
       refine zb I 103 (f.res) (false) (f103) fun Al W I => ?_
       have hE : a0k f cls a = 0 := by unfold a0k; rw [if_neg c1, if_neg (by omega), if_neg c3, if_neg c58, if_neg (fun h => by rcases h with h | h | ⟨h, k⟩ <;> first | (have := of_decide_eq_false f88; omega) | (rw [show (a.e != 0) = true from bne_iff_ne.2 h] at f92; cases f92; done) | (rw [f96] at h; cases h; done) | (rcases k with k | k <;> first | (have := beq_iff_eq.1 f35; omega) | (have := beq_eq_false_iff_ne.1 f49; have := beq_eq_false_iff_ne.1 f35; have := beq_eq_false_iff_ne.1 f39; omega) | (rw [f103] at k; cases k; done)))]
       refine zbin I 109 _ (fun _ _ _ _ _ => c0u .i64 (1) .i64 (f.E : Int) ((P : Int)) (by omega) ((HSH.out))) fun Al W I => ?_
       refine zi I 110 .i64 ((P : Int) - 1) (((P - 1 : Nat) : Int)) ((by rw [show ((P : Int) - 1) = ((P - 1 : Nat) : Int) by omega]; exact IntWalk.i64_in _ (by omega))) fun Al W I => ?_
       refine zb I 117 (cls == 3) (true) (f35) fun Al W I => ?_
       rcases Bool.eq_false_or_eq_true (f.hid) with f121 | f121
       · refine zb I 121 (f.hid) (true) (f121) fun Al W I => ?_
         refine zg I (fun Al W I => have hzW := I.bel.size; (hJ0 W a.g ((P - 1 : Nat) : Int) (P - 1) rfl (by omega)).out) fun Al V Iv hzV hB Kz kz => ?_
         rintro _ W ⟨rfl, hb⟩
         have hS : b0s (f.strP (f.encP cls.toNat a.g d)) = b0s (f.str a.g (P - 1) 0) := by rw [show cls.toNat = 3 by have := beq_iff_eq.1 f35; omega, e3, if_neg (by rw [(hhid f43).1 f121]; simp)]; rfl
         refine ⟨_, rfl, kz _ _ hb fun I => ?_⟩
         clear kz Kz
         exact zret I fun Al W I => d0b hE hS rfl I.below
       refine zb I 121 (f.hid) (false) (f121) fun Al W I => ?_
       refine zg I (fun Al W I => have hzW := I.bel.size; f0k 63 (2 ^ 63) 63 W (by omega) rfl rfl) fun Al V Iv hzV hB Kz kz => ?_
       rintro _ W ⟨p123, c123, rfl, o123, hb⟩
       refine ⟨_, rfl, kz _ _ hb fun I => ?_⟩
       clear kz Kz
       have I := I.own o123
       refine zg I (fun Al W I => have hzW := I.bel.size; (hJ W a.g ((P - 1 : Nat) : Int) (P - 1) (2 ^ 63) rfl p123 c123 I.fa.1.rd (by omega) (by rw [hx64 (hext f43 f121)]; omega)).out) fun Al V Iv hzV hB Kz kz => ?_
       rintro _ W ⟨rfl, hb⟩
       have hS : b0s (f.strP (f.encP cls.toNat a.g d)) = b0s (f.str a.g (P - 1) (2 ^ 63)) := by rw [show cls.toNat = 3 by have := beq_iff_eq.1 f35; omega, e3, if_pos (hext f43 f121)]; rfl
       refine ⟨_, rfl, kz _ _ hb fun I => ?_⟩
       clear kz Kz
       exact zret I fun Al W I => d0b hE hS rfl I.below
     refine zb I 96 (a.g) (false) (f96) fun Al W I => ?_
     have hE : a0k f cls a = 0 := by unfold a0k; rw [if_neg c1, if_neg (by omega), if_neg c3, if_neg c58, if_neg (fun h => by rcases h with h | h | ⟨h, k⟩ <;> first | (have := of_decide_eq_false f88; omega) | (rw [show (a.e != 0) = true from bne_iff_ne.2 h] at f92; cases f92; done) | (rw [f96] at h; cases h; done) | (rcases k with k | k <;> first | (have := beq_iff_eq.1 f35; omega) | (have := beq_eq_false_iff_ne.1 f49; have := beq_eq_false_iff_ne.1 f35; have := beq_eq_false_iff_ne.1 f39; omega) | (rw [f103] at k; cases k; done)))]
     refine zbin I 109 _ (fun _ _ _ _ _ => c0u .i64 (1) .i64 (f.E : Int) ((P : Int)) (by omega) ((HSH.out))) fun Al W I => ?_
     refine zi I 110 .i64 ((P : Int) - 1) (((P - 1 : Nat) : Int)) ((by rw [show ((P : Int) - 1) = ((P - 1 : Nat) : Int) by omega]; exact IntWalk.i64_in _ (by omega))) fun Al W I => ?_
     refine zb I 117 (cls == 3) (true) (f35) fun Al W I => ?_
     rcases Bool.eq_false_or_eq_true (f.hid) with f121 | f121
     · refine zb I 121 (f.hid) (true) (f121) fun Al W I => ?_
       refine zg I (fun Al W I => have hzW := I.bel.size; (hJ0 W a.g ((P - 1 : Nat) : Int) (P - 1) rfl (by omega)).out) fun Al V Iv hzV hB Kz kz => ?_
       rintro _ W ⟨rfl, hb⟩
       have hS : b0s (f.strP (f.encP cls.toNat a.g d)) = b0s (f.str a.g (P - 1) 0) := by rw [show cls.toNat = 3 by have := beq_iff_eq.1 f35; omega, e3, if_neg (by rw [(hhid f43).1 f121]; simp)]; rfl
       refine ⟨_, rfl, kz _ _ hb fun I => ?_⟩
       clear kz Kz
       exact zret I fun Al W I => d0b hE hS rfl I.below
     refine zb I 121 (f.hid) (false) (f121) fun Al W I => ?_
     refine zg I (fun Al W I => have hzW := I.bel.size; f0k 63 (2 ^ 63) 63 W (by omega) rfl rfl) fun Al V Iv hzV hB Kz kz => ?_
     rintro _ W ⟨p123, c123, rfl, o123, hb⟩
     refine ⟨_, rfl, kz _ _ hb fun I => ?_⟩
     clear kz Kz
     have I := I.own o123
     refine zg I (fun Al W I => have hzW := I.bel.size; (hJ W a.g ((P - 1 : Nat) : Int) (P - 1) (2 ^ 63) rfl p123 c123 I.fa.1.rd (by omega) (by rw [hx64 (hext f43 f121)]; omega)).out) fun Al V Iv hzV hB Kz kz => ?_
     rintro _ W ⟨rfl, hb⟩
     have hS : b0s (f.strP (f.encP cls.toNat a.g d)) = b0s (f.str a.g (P - 1) (2 ^ 63)) := by rw [show cls.toNat = 3 by have := beq_iff_eq.1 f35; omega, e3, if_pos (hext f43 f121)]; rfl
     refine ⟨_, rfl, kz _ _ hb fun I => ?_⟩
     clear kz Kz
     exact zret I fun Al W I => d0b hE hS rfl I.below
   refine zb I 43 (f.inf) (false) (f43) fun Al W I => ?_
   have hE : a0k f cls a = 5 := by unfold a0k; rw [if_neg c1, if_neg (by omega), if_pos (by first | exact .inl ⟨.inl (beq_iff_eq.1 f35), f43⟩ | exact .inl ⟨.inr (beq_iff_eq.1 f39), f43⟩ | exact .inr ⟨beq_iff_eq.1 f49, f52⟩)]
   have hN : (5 : Int) ≠ 0 := by decide
   exact zret I fun Al W I => a0m hE hN rfl I.below
 refine zb I 35 (cls == 3) (false) (f35) fun Al W I => ?_
 rcases Bool.eq_false_or_eq_true (cls == 4) with f39 | f39
 · refine zb I 39 (cls == 4) (true) (f39) fun Al W I => ?_
   rcases Bool.eq_false_or_eq_true (f.inf) with f43 | f43
   · refine zb I 43 (f.inf) (true) (f43) fun Al W I => ?_
     refine zb I 49 (cls == 5) (false) (beq_eq_false_iff_ne.2 (by have := beq_iff_eq.1 f39; omega)) fun Al W I => ?_
     have c3 : ¬ (((cls = 3 ∨ cls = 4) ∧ f.inf = false) ∨ (cls = 5 ∧ f.res = false)) := fun h => by rcases h with ⟨h, k⟩ | ⟨h, k⟩ <;> first | (rw [f43] at k; cases k; done) | (rw [f52] at k; cases k; done) | (have q := beq_iff_eq.1 f35; omega) | (have q := beq_iff_eq.1 f39; omega) | (have q := beq_eq_false_iff_ne.1 f35; have q2 := beq_eq_false_iff_ne.1 f39; omega) | (have q := beq_eq_false_iff_ne.1 f49; omega)
     refine zb I 58 (cls == 2) (false) (beq_eq_false_iff_ne.2 (by have := beq_iff_eq.1 f39; omega)) fun Al W I => ?_
     have c58 : cls ≠ 2 := by first | (have := beq_iff_eq.1 f35; omega) | (have := beq_iff_eq.1 f39; omega) | (have := beq_iff_eq.1 f49; omega) | exact beq_eq_false_iff_ne.1 f58
     rcases Bool.eq_false_or_eq_true (decide ((a.xs.length : Int) > 0)) with f88 | f88
     · refine zb I 88 (decide ((a.xs.length : Int) > 0)) (true) (f88) fun Al W I => ?_
       have hE : a0k f cls a = 4 := by unfold a0k; rw [if_neg c1, if_neg (by omega), if_neg c3, if_neg c58, if_pos (by first | (have := of_decide_eq_true f88; omega) | exact .inr (.inl (bne_iff_ne.1 f92)) | exact .inr (.inr ⟨f96, .inr f103⟩) | exact .inr (.inr ⟨f96, .inl (by first | (have := beq_iff_eq.1 f39; omega) | (have := beq_iff_eq.1 f49; omega))⟩))]
       have hN : (4 : Int) ≠ 0 := by decide
       exact zret I fun Al W I => a0m hE hN rfl I.below
     refine zb I 88 (decide ((a.xs.length : Int) > 0)) (false) (f88) fun Al W I => ?_
     rcases Bool.eq_false_or_eq_true (a.e != 0) with f92 | f92
     · refine zb I 92 (a.e != 0) (true) (f92) fun Al W I => ?_
       have hE : a0k f cls a = 4 := by unfold a0k; rw [if_neg c1, if_neg (by omega), if_neg c3, if_neg c58, if_pos (by first | (have := of_decide_eq_true f88; omega) | exact .inr (.inl (bne_iff_ne.1 f92)) | exact .inr (.inr ⟨f96, .inr f103⟩) | exact .inr (.inr ⟨f96, .inl (by first | (have := beq_iff_eq.1 f39; omega) | (have := beq_iff_eq.1 f49; omega))⟩))]
       have hN : (4 : Int) ≠ 0 := by decide
       exact zret I fun Al W I => a0m hE hN rfl I.below
     refine zb I 92 (a.e != 0) (false) (f92) fun Al W I => ?_
     rcases Bool.eq_false_or_eq_true (a.g) with f96 | f96
     · refine zb I 96 (a.g) (true) (f96) fun Al W I => ?_
       refine zb I 100 (decide (cls ≥ 4)) (true) (decide_eq_true (by have := beq_iff_eq.1 f39; omega)) fun Al W I => ?_
       have hE : a0k f cls a = 4 := by unfold a0k; rw [if_neg c1, if_neg (by omega), if_neg c3, if_neg c58, if_pos (by first | (have := of_decide_eq_true f88; omega) | exact .inr (.inl (bne_iff_ne.1 f92)) | exact .inr (.inr ⟨f96, .inr f103⟩) | exact .inr (.inr ⟨f96, .inl (by first | (have := beq_iff_eq.1 f39; omega) | (have := beq_iff_eq.1 f49; omega))⟩))]
       have hN : (4 : Int) ≠ 0 := by decide
       exact zret I fun Al W I => a0m hE hN rfl I.below
     refine zb I 96 (a.g) (false) (f96) fun Al W I => ?_
     have hE : a0k f cls a = 0 := by unfold a0k; rw [if_neg c1, if_neg (by omega), if_neg c3, if_neg c58, if_neg (fun h => by rcases h with h | h | ⟨h, k⟩ <;> first | (have := of_decide_eq_false f88; omega) | (rw [show (a.e != 0) = true from bne_iff_ne.2 h] at f92; cases f92; done) | (rw [f96] at h; cases h; done) | (rcases k with k | k <;> first | (have := beq_iff_eq.1 f35; omega) | (have := beq_eq_false_iff_ne.1 f49; have := beq_eq_false_iff_ne.1 f35; have := beq_eq_false_iff_ne.1 f39; omega) | (rw [f103] at k; cases k; done)))]
     refine zbin I 109 _ (fun _ _ _ _ _ => c0u .i64 (1) .i64 (f.E : Int) ((P : Int)) (by omega) ((HSH.out))) fun Al W I => ?_
     refine zi I 110 .i64 ((P : Int) - 1) (((P - 1 : Nat) : Int)) ((by rw [show ((P : Int) - 1) = ((P - 1 : Nat) : Int) by omega]; exact IntWalk.i64_in _ (by omega))) fun Al W I => ?_
     refine zb I 117 (cls == 3) (false) (f35) fun Al W I => ?_
     refine zb I 126 (cls == 4) (true) (f39) fun Al W I => ?_
     refine zi I 130 .i64 ((f.F : Int) - 1) (((f.F - 1 : Nat) : Int)) ((by rw [show ((f.F : Int) - 1) = ((f.F - 1 : Nat) : Int) by omega]; exact IntWalk.i64_in _ (by omega))) fun Al W I => ?_
     refine zg I (fun Al W I => have hzW := I.bel.size; f0k (f.F - 1) (2 ^ (f.F - 1)) _ W (by omega) rfl rfl) fun Al V Iv hzV hB Kz kz => ?_
     rintro _ W ⟨p131, c131, rfl, o131, hb⟩
     refine ⟨_, rfl, kz _ _ hb fun I => ?_⟩
     clear kz Kz
     have I := I.own o131
     rcases Bool.eq_false_or_eq_true (f.hid) with f135 | f135
     · refine zb I 135 (f.hid) (true) (f135) fun Al W I => ?_
       refine zg I (fun Al W I => have hzW := I.bel.size; (hJ W a.g ((P - 1 : Nat) : Int) (P - 1) (2 ^ (f.F - 1)) rfl p131 c131 I.fa.1.rd (by omega) hF1).out) fun Al V Iv hzV hB Kz kz => ?_
       rintro _ W ⟨rfl, hb⟩
       have hS : b0s (f.strP (f.encP cls.toNat a.g d)) = b0s (f.str a.g (P - 1) (2 ^ (f.F - 1))) := by rw [show cls.toNat = 4 by have := beq_iff_eq.1 f39; omega, e4, if_neg (by rw [(hhid f43).1 f135]; simp)]; rfl
       refine ⟨_, rfl, kz _ _ hb fun I => ?_⟩
       clear kz Kz
       exact zret I fun Al W I => d0b hE hS rfl I.below
     refine zb I 135 (f.hid) (false) (f135) fun Al W I => ?_
     refine zg I (fun Al W I => have hzW := I.bel.size; f0k 63 (2 ^ 63) 63 W (by omega) rfl rfl) fun Al V Iv hzV hB Kz kz => ?_
     rintro _ W ⟨p137, c137, rfl, o137, hb⟩
     refine ⟨_, rfl, kz _ _ hb fun I => ?_⟩
     clear kz Kz
     have I := I.own o137
     refine zg I (fun Al W I => have hzW := I.bel.size; f0k 62 (2 ^ 62) 62 W (by omega) rfl rfl) fun Al V Iv hzV hB Kz kz => ?_
     rintro _ W ⟨p138, c138, rfl, o138, hb⟩
     refine ⟨_, rfl, kz _ _ hb fun I => ?_⟩
     clear kz Kz
     have I := I.own o138
     refine zg I (fun Al W I => have hzW := I.bel.size; sadd p137 p138 _ _ c137 c138 (2 ^ 63) (2 ^ 62) (2 ^ 63 + 2 ^ 62) W I.fa.2.1.rd I.fa.1.rd rfl rfl (by omega) (by omega) rfl) fun Al V Iv hzV hB Kz kz => ?_
     rintro _ W ⟨p139, c139, rfl, o139, hb⟩
     refine ⟨_, rfl, kz _ _ hb fun I => ?_⟩
     clear kz Kz
     have I := I.own o139
     refine zg I (fun Al W I => have hzW := I.bel.size; (hJ W a.g ((P - 1 : Nat) : Int) (P - 1) (2 ^ 63 + 2 ^ 62) rfl p139 c139 I.fa.1.rd (by omega) (by rw [hx64 (hext f43 f135)]; omega)).out) fun Al V Iv hzV hB Kz kz => ?_
     rintro _ W ⟨rfl, hb⟩
     have hS : b0s (f.strP (f.encP cls.toNat a.g d)) = b0s (f.str a.g (P - 1) (2 ^ 63 + 2 ^ 62)) := by rw [show cls.toNat = 4 by have := beq_iff_eq.1 f39; omega, e4, if_pos (hext f43 f135)]; rfl
     refine ⟨_, rfl, kz _ _ hb fun I => ?_⟩
     clear kz Kz
     exact zret I fun Al W I => d0b hE hS rfl I.below
   refine zb I 43 (f.inf) (false) (f43) fun Al W I => ?_
   have hE : a0k f cls a = 5 := by unfold a0k; rw [if_neg c1, if_neg (by omega), if_pos (by first | exact .inl ⟨.inl (beq_iff_eq.1 f35), f43⟩ | exact .inl ⟨.inr (beq_iff_eq.1 f39), f43⟩ | exact .inr ⟨beq_iff_eq.1 f49, f52⟩)]
   have hN : (5 : Int) ≠ 0 := by decide
   exact zret I fun Al W I => a0m hE hN rfl I.below
 refine zb I 39 (cls == 4) (false) (f39) fun Al W I => ?_
 rcases Bool.eq_false_or_eq_true (cls == 5) with f49 | f49
 · refine zb I 49 (cls == 5) (true) (f49) fun Al W I => ?_
   rcases Bool.eq_false_or_eq_true (f.res) with f52 | f52
   · refine zb I 52 (f.res) (true) (f52) fun Al W I => ?_
     have c3 : ¬ (((cls = 3 ∨ cls = 4) ∧ f.inf = false) ∨ (cls = 5 ∧ f.res = false)) := fun h => by rcases h with ⟨h, k⟩ | ⟨h, k⟩ <;> first | (rw [f43] at k; cases k; done) | (rw [f52] at k; cases k; done) | (have q := beq_iff_eq.1 f35; omega) | (have q := beq_iff_eq.1 f39; omega) | (have q := beq_eq_false_iff_ne.1 f35; have q2 := beq_eq_false_iff_ne.1 f39; omega) | (have q := beq_eq_false_iff_ne.1 f49; omega)
     refine zb I 58 (cls == 2) (false) (beq_eq_false_iff_ne.2 (by have := beq_iff_eq.1 f49; omega)) fun Al W I => ?_
     have c58 : cls ≠ 2 := by first | (have := beq_iff_eq.1 f35; omega) | (have := beq_iff_eq.1 f39; omega) | (have := beq_iff_eq.1 f49; omega) | exact beq_eq_false_iff_ne.1 f58
     rcases Bool.eq_false_or_eq_true (decide ((a.xs.length : Int) > 0)) with f88 | f88
     · refine zb I 88 (decide ((a.xs.length : Int) > 0)) (true) (f88) fun Al W I => ?_
       have hE : a0k f cls a = 4 := by unfold a0k; rw [if_neg c1, if_neg (by omega), if_neg c3, if_neg c58, if_pos (by first | (have := of_decide_eq_true f88; omega) | exact .inr (.inl (bne_iff_ne.1 f92)) | exact .inr (.inr ⟨f96, .inr f103⟩) | exact .inr (.inr ⟨f96, .inl (by first | (have := beq_iff_eq.1 f39; omega) | (have := beq_iff_eq.1 f49; omega))⟩))]
       have hN : (4 : Int) ≠ 0 := by decide
       exact zret I fun Al W I => a0m hE hN rfl I.below
     refine zb I 88 (decide ((a.xs.length : Int) > 0)) (false) (f88) fun Al W I => ?_
     rcases Bool.eq_false_or_eq_true (a.e != 0) with f92 | f92
     · refine zb I 92 (a.e != 0) (true) (f92) fun Al W I => ?_
       have hE : a0k f cls a = 4 := by unfold a0k; rw [if_neg c1, if_neg (by omega), if_neg c3, if_neg c58, if_pos (by first | (have := of_decide_eq_true f88; omega) | exact .inr (.inl (bne_iff_ne.1 f92)) | exact .inr (.inr ⟨f96, .inr f103⟩) | exact .inr (.inr ⟨f96, .inl (by first | (have := beq_iff_eq.1 f39; omega) | (have := beq_iff_eq.1 f49; omega))⟩))]
       have hN : (4 : Int) ≠ 0 := by decide
       exact zret I fun Al W I => a0m hE hN rfl I.below
     refine zb I 92 (a.e != 0) (false) (f92) fun Al W I => ?_
     rcases Bool.eq_false_or_eq_true (a.g) with f96 | f96
     · refine zb I 96 (a.g) (true) (f96) fun Al W I => ?_
       refine zb I 100 (decide (cls ≥ 4)) (true) (decide_eq_true (by have := beq_iff_eq.1 f49; omega)) fun Al W I => ?_
       have hE : a0k f cls a = 4 := by unfold a0k; rw [if_neg c1, if_neg (by omega), if_neg c3, if_neg c58, if_pos (by first | (have := of_decide_eq_true f88; omega) | exact .inr (.inl (bne_iff_ne.1 f92)) | exact .inr (.inr ⟨f96, .inr f103⟩) | exact .inr (.inr ⟨f96, .inl (by first | (have := beq_iff_eq.1 f39; omega) | (have := beq_iff_eq.1 f49; omega))⟩))]
       have hN : (4 : Int) ≠ 0 := by decide
       exact zret I fun Al W I => a0m hE hN rfl I.below
     refine zb I 96 (a.g) (false) (f96) fun Al W I => ?_
     have hE : a0k f cls a = 0 := by unfold a0k; rw [if_neg c1, if_neg (by omega), if_neg c3, if_neg c58, if_neg (fun h => by rcases h with h | h | ⟨h, k⟩ <;> first | (have := of_decide_eq_false f88; omega) | (rw [show (a.e != 0) = true from bne_iff_ne.2 h] at f92; cases f92; done) | (rw [f96] at h; cases h; done) | (rcases k with k | k <;> first | (have := beq_iff_eq.1 f35; omega) | (have := beq_eq_false_iff_ne.1 f49; have := beq_eq_false_iff_ne.1 f35; have := beq_eq_false_iff_ne.1 f39; omega) | (rw [f103] at k; cases k; done)))]
     refine zbin I 109 _ (fun _ _ _ _ _ => c0u .i64 (1) .i64 (f.E : Int) ((P : Int)) (by omega) ((HSH.out))) fun Al W I => ?_
     refine zi I 110 .i64 ((P : Int) - 1) (((P - 1 : Nat) : Int)) ((by rw [show ((P : Int) - 1) = ((P - 1 : Nat) : Int) by omega]; exact IntWalk.i64_in _ (by omega))) fun Al W I => ?_
     refine zb I 117 (cls == 3) (false) (f35) fun Al W I => ?_
     refine zb I 126 (cls == 4) (false) (f39) fun Al W I => ?_
     refine zb I 142 (cls == 5) (true) (f49) fun Al W I => ?_
     refine zg I (fun Al W I => (hJ0 W true 0 0 rfl h0T).out) fun Al V Iv hzV hB Kz kz => ?_
     rintro _ W ⟨rfl, hb⟩
     have hS : b0s (f.strP (f.encP cls.toNat a.g d)) = b0s (f.str true 0 0) := by rw [show cls.toNat = 5 by have := beq_iff_eq.1 f49; omega, e5]; rfl
     refine ⟨_, rfl, kz _ _ hb fun I => ?_⟩
     clear kz Kz
     exact zret I fun Al W I => d0b hE hS rfl I.below
   refine zb I 52 (f.res) (false) (f52) fun Al W I => ?_
   have hE : a0k f cls a = 5 := by unfold a0k; rw [if_neg c1, if_neg (by omega), if_pos (by first | exact .inl ⟨.inl (beq_iff_eq.1 f35), f43⟩ | exact .inl ⟨.inr (beq_iff_eq.1 f39), f43⟩ | exact .inr ⟨beq_iff_eq.1 f49, f52⟩)]
   have hN : (5 : Int) ≠ 0 := by decide
   exact zret I fun Al W I => a0m hE hN rfl I.below
 refine zb I 49 (cls == 5) (false) (f49) fun Al W I => ?_
 have c3 : ¬ (((cls = 3 ∨ cls = 4) ∧ f.inf = false) ∨ (cls = 5 ∧ f.res = false)) := fun h => by rcases h with ⟨h, k⟩ | ⟨h, k⟩ <;> first | (rw [f43] at k; cases k; done) | (rw [f52] at k; cases k; done) | (have q := beq_iff_eq.1 f35; omega) | (have q := beq_iff_eq.1 f39; omega) | (have q := beq_eq_false_iff_ne.1 f35; have q2 := beq_eq_false_iff_ne.1 f39; omega) | (have q := beq_eq_false_iff_ne.1 f49; omega)
 rcases Bool.eq_false_or_eq_true (cls == 2) with f58 | f58
 · refine zb I 58 (cls == 2) (true) (f58) fun Al W I => ?_
   have c58 : cls = 2 := beq_iff_eq.1 f58
   rcases Bool.eq_false_or_eq_true (decide (a.e < (-20000))) with f61 | f61
   · refine zb I 61 (decide (a.e < (-20000))) (true) (f61) fun Al W I => ?_
     have hE : a0k f cls a = 3 := by unfold a0k; rw [if_neg c1, if_neg (by omega), if_neg c3, if_pos c58, if_pos (by first | (have := of_decide_eq_true f61; omega) | (have := of_decide_eq_true f65; omega))]
     have hN : (3 : Int) ≠ 0 := by decide
     exact zret I fun Al W I => a0m hE hN rfl I.below
   refine zb I 61 (decide (a.e < (-20000))) (false) (f61) fun Al W I => ?_
   rcases Bool.eq_false_or_eq_true (decide (a.e > 20000)) with f65 | f65
   · refine zb I 65 (decide (a.e > 20000)) (true) (f65) fun Al W I => ?_
     have hE : a0k f cls a = 3 := by unfold a0k; rw [if_neg c1, if_neg (by omega), if_neg c3, if_pos c58, if_pos (by first | (have := of_decide_eq_true f61; omega) | (have := of_decide_eq_true f65; omega))]
     have hN : (3 : Int) ≠ 0 := by decide
     exact zret I fun Al W I => a0m hE hN rfl I.below
   refine zb I 65 (decide (a.e > 20000)) (false) (f65) fun Al W I => ?_
   by_cases h70 : a.xs.length = 0
   · by_cases h77 : b0t d f.g = true
     · have c4 : -20000 ≤ a.e ∧ a.e ≤ 20000 := by have := of_decide_eq_false f61; have := of_decide_eq_false f65; omega
       have hb1 := hbd c2 c4
       refine zd [] I fun Al W I => ?_
       refine zk [0, 1, 2] I fun I => ?_
       refine zkb 3 I ((a.xs.length : Int) == 0) (true) (beq_iff_eq.2 (by omega)) fun I => ?_
       refine zk [4, 5, 6, 7, 8, 9, 10, 11, 12] I fun I => ?_
       have hE : a0k f cls a = 4 := by unfold a0k; rw [if_neg c1, if_neg (by omega), if_neg c3, if_pos c58, if_neg (by omega), if_pos (by first | exact .inl h70 | exact .inr (by rw [hD]; simpa using h77))]
       have hN : (4 : Int) ≠ 0 := by decide
       exact zret I fun Al W I => a0m hE hN rfl I.below
     have c4 : -20000 ≤ a.e ∧ a.e ≤ 20000 := by have := of_decide_eq_false f61; have := of_decide_eq_false f65; omega
     have hb1 := hbd c2 c4
     refine zd [] I fun Al W I => ?_
     refine zk [0, 1, 2] I fun I => ?_
     refine zkb 3 I ((a.xs.length : Int) == 0) (true) (beq_iff_eq.2 (by omega)) fun I => ?_
     refine zk [4, 5, 6, 7, 8, 9, 10, 11, 12] I fun I => ?_
     have hE : a0k f cls a = 4 := by unfold a0k; rw [if_neg c1, if_neg (by omega), if_neg c3, if_pos c58, if_neg (by omega), if_pos (by first | exact .inl h70 | exact .inr (by rw [hD]; simpa using h77))]
     have hN : (4 : Int) ≠ 0 := by decide
     exact zret I fun Al W I => a0m hE hN rfl I.below
   by_cases h77 : b0t d f.g = true
   · have c4 : -20000 ≤ a.e ∧ a.e ≤ 20000 := by have := of_decide_eq_false f61; have := of_decide_eq_false f65; omega
     have hb1 := hbd c2 c4
     refine zd [] I fun Al W I => ?_
     refine zk [0, 1, 2] I fun I => ?_
     refine zkb 3 I ((a.xs.length : Int) == 0) (false) (beq_eq_false_iff_ne.2 (by omega)) fun I => ?_
     refine zk [4, 5, 6, 8, 9] I fun I => ?_
     refine zo 7 I (fun I => ?_)
     refine zg I (fun Al W I => (HR W c2 I.fa.1 c4 I.fa.2.1).out) fun Al V Iv hzV hB Kz kz => ?_
     rintro _ W ⟨p74, c74, rfl, o74, hb⟩
     refine ⟨_, rfl, kz _ _ hb fun I => ?_⟩
     clear kz Kz
     have I := I.own o74
     refine zo 10 I (fun I => ?_)
     refine zg I (fun Al W I => have hzW := I.bel.size; n0j d.neg p74 c74 d.e d.m f.g W I.fa.1.rd (by omega) (by omega) (c0g G.g)) fun Al V Iv hzV hB Kz kz => ?_
     rintro _ W ⟨rfl, hb⟩
     refine ⟨_, congrArg (fun b => Ending.returned (.bool b)) (show (i0l ⟨d.neg, d.m, d.e⟩ f.g) = true from hkp.trans h77), kz _ _ hb fun I => ?_⟩
     clear kz Kz
     refine zk [11, 12] I fun I => ?_
     have hi := hige h77
     refine zd [] I fun Al W I => ?_
     refine zk [0, 1, 2] I fun I => ?_
     refine zo 3 I (fun I => ?_)
     refine zg I (fun Al W I => (HR W c2 I.fa.2.1 c4 I.fa.2.2.1).out) fun Al V Iv hzV hB Kz kz => ?_
     rintro _ W ⟨p83, c83, rfl, o83, hb⟩
     refine ⟨_, rfl, kz _ _ hb fun I => ?_⟩
     clear kz Kz
     have I := I.own o83
     refine zo 4 I (fun I => ?_)
     refine zg I (fun Al W I => have hzW := I.bel.size; v0v f d p83 c83 W G I.fa.1.rd hb1.1 (by omega) h77 (hm0 c2 h70)) fun Al V Iv hzV hB Kz kz => ?_
     rintro _ W ⟨rfl, hb⟩
     refine ⟨_, rfl, kz _ _ hb fun I => ?_⟩
     clear kz Kz
     refine zk [5, 6] I fun I => ?_
     have hE : a0k f cls a = 0 := by unfold a0k; rw [if_neg c1, if_neg (by omega), if_neg c3, if_pos c58, if_neg (by omega), if_neg (fun h => by rcases h with h | h <;> first | exact h70 h | (rw [hD, h77] at h; cases h; done))]
     exact zret I (v := fun Al => .tuple #[.string (b0s (f.strP (f.numP d))), .int .i64 0]) fun Al W I => d0b hE (by rw [show cls.toNat = 2 by omega, e2]) rfl I.below
   have c4 : -20000 ≤ a.e ∧ a.e ≤ 20000 := by have := of_decide_eq_false f61; have := of_decide_eq_false f65; omega
   have hb1 := hbd c2 c4
   refine zd [] I fun Al W I => ?_
   refine zk [0, 1, 2] I fun I => ?_
   refine zkb 3 I ((a.xs.length : Int) == 0) (false) (beq_eq_false_iff_ne.2 (by omega)) fun I => ?_
   refine zk [4, 5, 6, 8, 9] I fun I => ?_
   refine zo 7 I (fun I => ?_)
   refine zg I (fun Al W I => (HR W c2 I.fa.1 c4 I.fa.2.1).out) fun Al V Iv hzV hB Kz kz => ?_
   rintro _ W ⟨p74, c74, rfl, o74, hb⟩
   refine ⟨_, rfl, kz _ _ hb fun I => ?_⟩
   clear kz Kz
   have I := I.own o74
   refine zo 10 I (fun I => ?_)
   refine zg I (fun Al W I => have hzW := I.bel.size; n0j d.neg p74 c74 d.e d.m f.g W I.fa.1.rd (by omega) (by omega) (c0g G.g)) fun Al V Iv hzV hB Kz kz => ?_
   rintro _ W ⟨rfl, hb⟩
   refine ⟨_, congrArg (fun b => Ending.returned (.bool b)) (show (i0l ⟨d.neg, d.m, d.e⟩ f.g) = false from hkp.trans (by simpa using h77)), kz _ _ hb fun I => ?_⟩
   clear kz Kz
   refine zk [11, 12] I fun I => ?_
   have hE : a0k f cls a = 4 := by unfold a0k; rw [if_neg c1, if_neg (by omega), if_neg c3, if_pos c58, if_neg (by omega), if_pos (by first | exact .inl h70 | exact .inr (by rw [hD]; simpa using h77))]
   have hN : (4 : Int) ≠ 0 := by decide
   exact zret I fun Al W I => a0m hE hN rfl I.below
 refine zb I 58 (cls == 2) (false) (f58) fun Al W I => ?_
 have c58 : cls ≠ 2 := by first | (have := beq_iff_eq.1 f35; omega) | (have := beq_iff_eq.1 f39; omega) | (have := beq_iff_eq.1 f49; omega) | exact beq_eq_false_iff_ne.1 f58
 rcases Bool.eq_false_or_eq_true (decide ((a.xs.length : Int) > 0)) with f88 | f88
 · refine zb I 88 (decide ((a.xs.length : Int) > 0)) (true) (f88) fun Al W I => ?_
   have hE : a0k f cls a = 4 := by unfold a0k; rw [if_neg c1, if_neg (by omega), if_neg c3, if_neg c58, if_pos (by first | (have := of_decide_eq_true f88; omega) | exact .inr (.inl (bne_iff_ne.1 f92)) | exact .inr (.inr ⟨f96, .inr f103⟩) | exact .inr (.inr ⟨f96, .inl (by first | (have := beq_iff_eq.1 f39; omega) | (have := beq_iff_eq.1 f49; omega))⟩))]
   have hN : (4 : Int) ≠ 0 := by decide
   exact zret I fun Al W I => a0m hE hN rfl I.below
 refine zb I 88 (decide ((a.xs.length : Int) > 0)) (false) (f88) fun Al W I => ?_
 rcases Bool.eq_false_or_eq_true (a.e != 0) with f92 | f92
 · refine zb I 92 (a.e != 0) (true) (f92) fun Al W I => ?_
   have hE : a0k f cls a = 4 := by unfold a0k; rw [if_neg c1, if_neg (by omega), if_neg c3, if_neg c58, if_pos (by first | (have := of_decide_eq_true f88; omega) | exact .inr (.inl (bne_iff_ne.1 f92)) | exact .inr (.inr ⟨f96, .inr f103⟩) | exact .inr (.inr ⟨f96, .inl (by first | (have := beq_iff_eq.1 f39; omega) | (have := beq_iff_eq.1 f49; omega))⟩))]
   have hN : (4 : Int) ≠ 0 := by decide
   exact zret I fun Al W I => a0m hE hN rfl I.below
 refine zb I 92 (a.e != 0) (false) (f92) fun Al W I => ?_
 rcases Bool.eq_false_or_eq_true (a.g) with f96 | f96
 · refine zb I 96 (a.g) (true) (f96) fun Al W I => ?_
   refine zb I 100 (decide (cls ≥ 4)) (false) (decide_eq_false (by have := beq_eq_false_iff_ne.1 f49; have := beq_eq_false_iff_ne.1 f35; have := beq_eq_false_iff_ne.1 f39; omega)) fun Al W I => ?_
   rcases Bool.eq_false_or_eq_true (f.res) with f103 | f103
   · refine zb I 103 (f.res) (true) (f103) fun Al W I => ?_
     have hE : a0k f cls a = 4 := by unfold a0k; rw [if_neg c1, if_neg (by omega), if_neg c3, if_neg c58, if_pos (by first | (have := of_decide_eq_true f88; omega) | exact .inr (.inl (bne_iff_ne.1 f92)) | exact .inr (.inr ⟨f96, .inr f103⟩) | exact .inr (.inr ⟨f96, .inl (by first | (have := beq_iff_eq.1 f39; omega) | (have := beq_iff_eq.1 f49; omega))⟩))]
     have hN : (4 : Int) ≠ 0 := by decide
     exact zret I fun Al W I => a0m hE hN rfl I.below
   refine zb I 103 (f.res) (false) (f103) fun Al W I => ?_
   have hE : a0k f cls a = 0 := by unfold a0k; rw [if_neg c1, if_neg (by omega), if_neg c3, if_neg c58, if_neg (fun h => by rcases h with h | h | ⟨h, k⟩ <;> first | (have := of_decide_eq_false f88; omega) | (rw [show (a.e != 0) = true from bne_iff_ne.2 h] at f92; cases f92; done) | (rw [f96] at h; cases h; done) | (rcases k with k | k <;> first | (have := beq_iff_eq.1 f35; omega) | (have := beq_eq_false_iff_ne.1 f49; have := beq_eq_false_iff_ne.1 f35; have := beq_eq_false_iff_ne.1 f39; omega) | (rw [f103] at k; cases k; done)))]
   refine zbin I 109 _ (fun _ _ _ _ _ => c0u .i64 (1) .i64 (f.E : Int) ((P : Int)) (by omega) ((HSH.out))) fun Al W I => ?_
   refine zi I 110 .i64 ((P : Int) - 1) (((P - 1 : Nat) : Int)) ((by rw [show ((P : Int) - 1) = ((P - 1 : Nat) : Int) by omega]; exact IntWalk.i64_in _ (by omega))) fun Al W I => ?_
   refine zb I 117 (cls == 3) (false) (f35) fun Al W I => ?_
   refine zb I 126 (cls == 4) (false) (f39) fun Al W I => ?_
   refine zb I 142 (cls == 5) (false) (f49) fun Al W I => ?_
   refine zg I (fun Al W I => (hJ0 W a.g 0 0 rfl h0T).out) fun Al V Iv hzV hB Kz kz => ?_
   rintro _ W ⟨rfl, hb⟩
   have hS : b0s (f.strP (f.encP cls.toNat a.g d)) = b0s (f.str a.g 0 0) := by rw [show cls.toNat = 1 by have := beq_eq_false_iff_ne.1 f49; have := beq_eq_false_iff_ne.1 f35; have := beq_eq_false_iff_ne.1 f39; omega, e1]; rfl
   refine ⟨_, rfl, kz _ _ hb fun I => ?_⟩
   clear kz Kz
   exact zret I fun Al W I => d0b hE hS rfl I.below
 refine zb I 96 (a.g) (false) (f96) fun Al W I => ?_
 have hE : a0k f cls a = 0 := by unfold a0k; rw [if_neg c1, if_neg (by omega), if_neg c3, if_neg c58, if_neg (fun h => by rcases h with h | h | ⟨h, k⟩ <;> first | (have := of_decide_eq_false f88; omega) | (rw [show (a.e != 0) = true from bne_iff_ne.2 h] at f92; cases f92; done) | (rw [f96] at h; cases h; done) | (rcases k with k | k <;> first | (have := beq_iff_eq.1 f35; omega) | (have := beq_eq_false_iff_ne.1 f49; have := beq_eq_false_iff_ne.1 f35; have := beq_eq_false_iff_ne.1 f39; omega) | (rw [f103] at k; cases k; done)))]
 refine zbin I 109 _ (fun _ _ _ _ _ => c0u .i64 (1) .i64 (f.E : Int) ((P : Int)) (by omega) ((HSH.out))) fun Al W I => ?_
 refine zi I 110 .i64 ((P : Int) - 1) (((P - 1 : Nat) : Int)) ((by rw [show ((P : Int) - 1) = ((P - 1 : Nat) : Int) by omega]; exact IntWalk.i64_in _ (by omega))) fun Al W I => ?_
 refine zb I 117 (cls == 3) (false) (f35) fun Al W I => ?_
 refine zb I 126 (cls == 4) (false) (f39) fun Al W I => ?_
 refine zb I 142 (cls == 5) (false) (f49) fun Al W I => ?_
 refine zg I (fun Al W I => (hJ0 W a.g 0 0 rfl h0T).out) fun Al V Iv hzV hB Kz kz => ?_
 rintro _ W ⟨rfl, hb⟩
 have hS : b0s (f.strP (f.encP cls.toNat a.g d)) = b0s (f.str a.g 0 0) := by rw [show cls.toNat = 1 by have := beq_eq_false_iff_ne.1 f49; have := beq_eq_false_iff_ne.1 f35; have := beq_eq_false_iff_ne.1 f39; omega, e1]; rfl
 refine ⟨_, rfl, kz _ _ hb fun I => ?_⟩
 clear kz Kz
 exact zret I fun Al W I => d0b hE hS rfl I.below
end Go.Proofs.YtlcdfnaaenibgaaGreatDoor
namespace Go.Slip
theorem m0q (r : List Bool) {i : Nat} (h : i < r.length) : (r.take (i + 1)).all id = ((r.take i).all id && r.getD i false) := by
 rw [o0g r i h, List.getD_eq_getElem?_getD, List.getElem?_eq_getElem h]
 rfl
theorem n0l {X F d : Nat} (h : X < 2 ^ F) (hF : F ≤ 64) (hd : d ≤ 120) : X + 2 ^ d < 2 ^ 122 := by
 have h1 : 2 ^ F ≤ 2 ^ 64 := Nat.pow_le_pow_right (by omega) hF
 have h2 : 2 ^ d ≤ 2 ^ 120 := Nat.pow_le_pow_right (by omega) hd
 omega
theorem c1u {a b : Nat} (h : cmpN a b < 0) : a < b := by
 unfold cmpN at h
 split at h
 · assumption
 · split at h <;> omega
theorem s0y {a b : Nat} (h : ¬ cmpN a b < 0) : ¬ a < b := fun k => by
 apply h
 rw [g0c k]
 decide
theorem c1v {w : World} {p : Option Addr} {x : Bool} {r : List Bool} (h : RdV w p ((x :: r).map Value.bool)) (E : Nat) : RdV w (p.map (·.add (1 + E))) ((r.drop E).map Value.bool) := by
 have := h.drop (1 + E)
 rw [show ((x :: r).map Value.bool).drop (1 + E) = (r.drop E).map Value.bool by rw [Nat.add_comm, List.map_cons, List.drop_succ_cons, List.map_drop]] at this
 exact this
end Go.Slip
namespace Go.Proofs.YtlcdfnaaenibgaaGreatDoor
open Go.RowKit Go.Slip

def i0w (w : World) (v : Vr) (g : Bool) (en : Ending) (w' : World) : Prop :=
 ∃ p c, en = .returned (.tuple #[.agg #[.int .i64 (v.cls : Int), .bool v.neg, .bool v.x.neg, .slice p (dig B16 v.x.m).length c, .int .i64 v.x.e], .bool g]) ∧ Rf w' w.heap.size p c (dig B16 v.x.m) ∧ Below w.heap.size w w'
theorem c0j {w w' : World} {v : Vr} {k : Nat} {n g : Bool} {en : Ending} (hv : v = ⟨k, n, ⟨false, 0, 0⟩⟩) (h : en = .returned (.tuple #[.agg #[.int .i64 (k : Int), .bool n, .bool false, .slice none 0 0, .int .i64 0], .bool g])) (hb : Below w.heap.size w w') : i0w w v g en w' := by
 subst hv
 refine ⟨none, 0, ?_, ?_, hb⟩
 · rw [h, a0c]; rfl
 · rw [a0c]; exact y0e _ _ _
theorem d0s {w w' : World} {v u : Vr} {g : Bool} {p : Option Addr} {c base : Nat} {en : Ending} (hv : v = u) (h : en = .returned (.tuple #[.agg #[.int .i64 (u.cls : Int), .bool u.neg, .bool u.x.neg, .slice p (dig B16 u.x.m).length c, .int .i64 u.x.e], .bool g])) (ho : Rf w' base p c (dig B16 u.x.m)) (hB : w.heap.size ≤ base) (hb : Below w.heap.size w w') : i0w w v g en w' := by
 subst hv
 exact ⟨p, c, h, ho.mono hB, hb⟩

theorem m0h (f : Fm) (g : Bool) {k : Nat} (hk : k ≠ 2) : f.vr g ⟨k, 0, 0⟩ = ⟨k, if k ≤ 3 then g else false, ⟨false, 0, 0⟩⟩ := by
 unfold Fm.vr Dc.c
 simp [hk]

theorem g0v (n : Int) (s : ByteArray) (w : World) (hn : IsFm n) (hs : s.size = (fmt n).size) :
 Calls Tryz.prog 36 #[.int .i64 n, .string s] w (i0w w ((fmt n).refN (a0s (fmt n) s)) ((fmt n).neg (a0s (fmt n) s))) := by
 have G := f0j hn
 have hext := e1g hn
 have HF := fun W => Lib.hid (f0a n hn W)
 have HB := fun W => Lib.hid (p0c n s W hn hs)
 generalize fmt n = f at *
 have z1 := G.sz
 have z2 := G.e2
 have z3 := G.f2
 have z4 := G.bits
 have z5 := G.lo
 have z6 := G.f1
 have hl0 : (a0z s).length = f.size := by rw [b0z, hs]
 have hlL : (ordL f.ord (a0z s)).length = f.size := by rw [d0y, hl0]
 have hN : a0s f s = vb (f0g (ordL f.ord (a0z s))) := (s0c _ (j0j (fun _ => by omega) (j0p s))).symm
 have hlB : (f0g (ordL f.ord (a0z s))).length = 1 + f.E + f.F := by rw [g0q, hlL]; omega
 rw [hN]
 clear hN
 generalize f0g (ordL f.ord (a0z s)) = bs at *
 obtain ⟨x, r, rfl⟩ : ∃ x r, bs = x :: r := by
  cases bs with
  | nil => simp at hlB; omega
  | cons x r => exact ⟨x, r, rfl⟩
 have hr : r.length = f.E + f.F := by rw [List.length_cons] at hlB; omega
 unfold Fm.refN Fm.decN
 rw [b1d hr, b1f hr, x0y hr]
 have hEl : (r.take f.E).length = f.E := by rw [List.length_take]; omega
 have hXl : (r.drop f.E).length = f.F := by rw [List.length_drop]; omega
 have hones := x0o (r.take f.E)
 rw [hEl] at hones
 have hElt := j0g (r.take f.E)
 rw [hEl] at hElt
 have hXlt := j0g (r.drop f.E)
 rw [hXl] at hXlt
 have HV := fun W p m c h hm => Lib.hid (r0d (r.drop f.E) p m c W h hm (by omega))
 have hvt := fun i h => i0v r (i := i) h
 have hat := fun i h => m0q r (i := i) h
 have hev : ∀ i, i ≤ f.E → vb (r.take i) < 32768 := fun i hi => Nat.lt_of_lt_of_le (j0g _) (by rw [List.length_take, show (32768 : Nat) = 2 ^ 15 from rfl]; exact Nat.pow_le_pow_right (by omega) (by omega))
 have hget := fun i h => u0f r (i := i) h
 generalize hEE : vb (r.take f.E) = EE at *
 generalize hXX : vb (r.drop f.E) = X at *
 have hXd := d0h hXlt (k := 4) (by omega)
 have hX0 := a0e a0i X
 have h15 : EE < 32768 := Nat.lt_of_lt_of_le hElt (by rw [show (32768 : Nat) = 2 ^ 15 from rfl]; exact Nat.pow_le_pow_right (by omega) (by omega))
 have hg := c0g G.g
 have hd1 := hg.d1
 have hd2 := hg.d2
 obtain ⟨dN, hdN⟩ : ∃ dN : Nat, f.g.digs - 1 = (dN : Int) := ⟨(f.g.digs - 1).toNat, by omega⟩
 have hdl : (dig B16 (2 ^ dN)).length ≤ 8 := d0h (n := 121) (Nat.pow_lt_pow_right (by omega) (by omega)) (by omega)
 have hd1F := G.d1
 have hextF := G.ext
 have hfam := G.fam
 have hln : (List.map Value.bool (x :: r)).length = (x :: r).length := List.length_map ..
 have hlr : (x :: r).length = 1 + f.E + f.F := hlB
 clear hXX hl0 hlL hXl hs
 have I := Inv.start w [] True.intro
 refine a0b [.v (.int .i64 n), .v (.string s)] I Tryz.func36 ?_
 refine zg I (fun Al W I => (HF W).out) fun Al V Iv hzV hB Kz kz => ?_
 rintro _ W ⟨rfl, hb⟩
 refine ⟨_, rfl, kz _ _ hb fun I => ?_⟩
 clear kz Kz
 refine zg I (fun Al W I => (HB W).out) fun Al V Iv hzV hB Kz kz => ?_
 rintro _ W ⟨p8, c8, rfl, o8, hb⟩
 refine ⟨_, rfl, kz _ _ hb fun I => ?_⟩
 clear kz Kz
 have I := I.ownv o8
 refine zx I 26 (fun _ => .pointer (some (at_ p8 0))) (fun Al W I => g0u (p := p8) (n := (x :: r).length) (c := c8) (m := 0) h0x (by have h := I.fa.1.rd.solid; rw [hln] at h; exact h) (by omega)) fun Al W I => ?_
 refine zx I 27 (fun _ => .bool x) (fun Al W I => q0m I.fa.1.rd l0v (m := 0) rfl) fun Al W I => ?_
 refine q0j I (fun gk fr bx gs => ∃ (U900 : Nat → Value) (i : Nat) (e : Nat) (o : Bool), fr = (.v (.int .i64 n) :: .v (.string s) :: su 2 (.p 0 0 :: .v (.bool false) :: .p 1 0 :: .v (U900 7) :: .v (.slice p8 (x :: r).length c8) :: .p 2 0 :: .v (.int .i64 (e : Int)) :: .v (.bool o) :: .v (.int .i64 ((i + 1 : Nat) : Int)) :: su 4 (sw U900 17 48 (su 2 (sw U900 67 8 (.v undef :: sw U900 76 2 (su 2 (sw U900 80 15 (su 2 (sw U900 97 3 (.v undef :: sw U900 101 12 (.v undef :: sw U900 114 11 (.v undef :: sw U900 126 2 (.v undef :: sw U900 129 6 (.v undef :: sw U900 136 12 [])))))))))))))) : List SV) ∧ bx = [⟨32, [.v (.int .i64 0), .v (.bool false), .v (.bool false), .v (.slice none 0 0), .v (.int .i64 0)], false⟩, ⟨55, [.v (.int .i64 (f.size : Int)), .v (.int .i64 (f.E : Int)), .v (.int .i64 (f.F : Int)), .v (.int .i64 f.g.rad), .v (.int .i64 f.g.digs), .v (.int .i64 f.g.lo), .v (.int .i64 f.g.hi), .v (.bool f.g.grad), .v (.int .i64 (f.fam : Int))], false⟩, ⟨4, [.v (.bool x)], false⟩] ∧ gs = [f1u w.heap.size 4 p8 c8 ((x :: r).map Value.bool)] ∧ (e = vb (r.take i)) ∧ (o = (r.take i).all id) ∧ (gk + i = f.E)) f.E (fun Al W U I => ⟨_, ⟨U, 0, 0, true, rfl, rfl, rfl, rfl, rfl, (by omega)⟩, I.pick [0]⟩) ?_
 rintro J gk0 _ _ _ ⟨U900, i, e, o, rfl, rfl, rfl, he, ho, hgk⟩ hJ Al W I
 have hel : e < 32768 := by rw [he]; exact hev i (by omega)
 rcases Bool.eq_false_or_eq_true (decide (((i + 1 : Nat) : Int) ≤ (f.E : Int))) with f31 | f31
 · refine zb I 31 (decide (((i + 1 : Nat) : Int) ≤ (f.E : Int))) (true) (f31) fun Al W I => ?_
   refine zi I 35 .i64 ((2 : Int) * (e : Int)) (((2 * e : Nat) : Int)) ((by rw [show ((2 : Int) * (e : Int)) = ((2 * e : Nat) : Int) by omega]; exact IntWalk.i64_in _ (by omega))) fun Al W I => ?_
   refine zx I 38 (fun _ => .pointer (some (at_ p8 (i + 1)))) (fun Al W I => g0u (p := p8) (n := (x :: r).length) (c := c8) (m := i + 1) h0x (by have h := I.fa.1.rd.solid; rw [hln] at h; exact h) (by have := of_decide_eq_true f31; omega)) fun Al W I => ?_
   rcases Bool.eq_false_or_eq_true (r.getD i false) with f39 | f39
   · refine zx I 39 (fun _ => .bool true) (fun Al W I => (q0m I.fa.1.rd l0v (m := i + 1) (by rw [List.map_cons, List.getElem?_cons_succ]; exact hget i (by have := of_decide_eq_true f31; omega))).trans (congrArg (fun z => Result.ok (Value.bool z) W) (show (r.getD i false) = true from f39))) fun Al W I => ?_
     refine zi I 41 .i64 (((2 * e : Nat) : Int) + 1) (((2 * e + 1 : Nat) : Int)) ((by rw [show (((2 * e : Nat) : Int) + 1) = ((2 * e + 1 : Nat) : Int) by omega]; exact IntWalk.i64_in _ (by omega))) fun Al W I => ?_
     rcases Bool.eq_false_or_eq_true (o) with f43 | f43
     · refine zb I 43 (o) (true) (f43) fun Al W I => ?_
       refine zx I 46 (fun _ => .pointer (some (at_ p8 (i + 1)))) (fun Al W I => g0u (p := p8) (n := (x :: r).length) (c := c8) (m := i + 1) h0x (by have h := I.fa.1.rd.solid; rw [hln] at h; exact h) (by have := of_decide_eq_true f31; omega)) fun Al W I => ?_
       refine zx I 47 (fun _ => .bool true) (fun Al W I => (q0m I.fa.1.rd l0v (m := i + 1) (by rw [List.map_cons, List.getElem?_cons_succ]; exact hget i (by have := of_decide_eq_true f31; omega))).trans (congrArg (fun z => Result.ok (Value.bool z) W) (show (r.getD i false) = true from f39))) fun Al W I => ?_
       refine zi I 33 .i64 (((i + 1 : Nat) : Int) + 1) (((i + 1 + 1 : Nat) : Int)) ((by rw [show (((i + 1 : Nat) : Int) + 1) = ((i + 1 + 1 : Nat) : Int) by omega]; exact IntWalk.i64_in _ (by have := of_decide_eq_true f31; omega))) fun Al W I => ?_
       exact b0j I J fun Al W U I => hJ (gk0 - 1) _ _ _ _ _ ((by have := of_decide_eq_true f31; omega)) ⟨U, i + 1, 2 * e + 1, true, rfl, rfl, rfl, (by rw [← hvt i (by have := of_decide_eq_true f31; omega), f39, he, Bool.toNat_true, Nat.mul_comm]), (by rw [hat i (by have := of_decide_eq_true f31; omega), f39, ← ho, f43]; rfl), (by have := of_decide_eq_true f31; omega)⟩ (I.pick [0])
     refine zb I 43 (o) (false) (f43) fun Al W I => ?_
     refine zi I 33 .i64 (((i + 1 : Nat) : Int) + 1) (((i + 1 + 1 : Nat) : Int)) ((by rw [show (((i + 1 : Nat) : Int) + 1) = ((i + 1 + 1 : Nat) : Int) by omega]; exact IntWalk.i64_in _ (by have := of_decide_eq_true f31; omega))) fun Al W I => ?_
     exact b0j I J fun Al W U I => hJ (gk0 - 1) _ _ _ _ _ ((by have := of_decide_eq_true f31; omega)) ⟨U, i + 1, 2 * e + 1, false, rfl, rfl, rfl, (by rw [← hvt i (by have := of_decide_eq_true f31; omega), f39, he, Bool.toNat_true, Nat.mul_comm]), (by rw [hat i (by have := of_decide_eq_true f31; omega), f39, ← ho, f43]; rfl), (by have := of_decide_eq_true f31; omega)⟩ (I.pick [0])
   refine zx I 39 (fun _ => .bool false) (fun Al W I => (q0m I.fa.1.rd l0v (m := i + 1) (by rw [List.map_cons, List.getElem?_cons_succ]; exact hget i (by have := of_decide_eq_true f31; omega))).trans (congrArg (fun z => Result.ok (Value.bool z) W) (show (r.getD i false) = false from f39))) fun Al W I => ?_
   rcases Bool.eq_false_or_eq_true (o) with f43 | f43
   · refine zb I 43 (o) (true) (f43) fun Al W I => ?_
     refine zx I 46 (fun _ => .pointer (some (at_ p8 (i + 1)))) (fun Al W I => g0u (p := p8) (n := (x :: r).length) (c := c8) (m := i + 1) h0x (by have h := I.fa.1.rd.solid; rw [hln] at h; exact h) (by have := of_decide_eq_true f31; omega)) fun Al W I => ?_
     refine zx I 47 (fun _ => .bool false) (fun Al W I => (q0m I.fa.1.rd l0v (m := i + 1) (by rw [List.map_cons, List.getElem?_cons_succ]; exact hget i (by have := of_decide_eq_true f31; omega))).trans (congrArg (fun z => Result.ok (Value.bool z) W) (show (r.getD i false) = false from f39))) fun Al W I => ?_
     refine zi I 33 .i64 (((i + 1 : Nat) : Int) + 1) (((i + 1 + 1 : Nat) : Int)) ((by rw [show (((i + 1 : Nat) : Int) + 1) = ((i + 1 + 1 : Nat) : Int) by omega]; exact IntWalk.i64_in _ (by have := of_decide_eq_true f31; omega))) fun Al W I => ?_
     exact b0j I J fun Al W U I => hJ (gk0 - 1) _ _ _ _ _ ((by have := of_decide_eq_true f31; omega)) ⟨U, i + 1, 2 * e, false, rfl, rfl, rfl, (by rw [← hvt i (by have := of_decide_eq_true f31; omega), f39, he, Bool.toNat_false, Nat.mul_comm, Nat.add_zero]), (by rw [hat i (by have := of_decide_eq_true f31; omega), f39, ← ho, f43]; rfl), (by have := of_decide_eq_true f31; omega)⟩ (I.pick [0])
   refine zb I 43 (o) (false) (f43) fun Al W I => ?_
   refine zi I 33 .i64 (((i + 1 : Nat) : Int) + 1) (((i + 1 + 1 : Nat) : Int)) ((by rw [show (((i + 1 : Nat) : Int) + 1) = ((i + 1 + 1 : Nat) : Int) by omega]; exact IntWalk.i64_in _ (by have := of_decide_eq_true f31; omega))) fun Al W I => ?_
   exact b0j I J fun Al W U I => hJ (gk0 - 1) _ _ _ _ _ ((by have := of_decide_eq_true f31; omega)) ⟨U, i + 1, 2 * e, false, rfl, rfl, rfl, (by rw [← hvt i (by have := of_decide_eq_true f31; omega), f39, he, Bool.toNat_false, Nat.mul_comm, Nat.add_zero]), (by rw [hat i (by have := of_decide_eq_true f31; omega), f39, ← ho, f43]; rfl), (by have := of_decide_eq_true f31; omega)⟩ (I.pick [0])
 refine zb I 31 (decide (((i + 1 : Nat) : Int) ≤ (f.E : Int))) (false) (f31) fun Al W I => ?_
 have hiE : i = f.E := by have := of_decide_eq_false f31; omega
 have heE : e = EE := by rw [he, hiE, hEE]
 have hoE : o = true ↔ EE = 2 ^ f.E - 1 := by rw [ho, hiE]; exact hones
 clear he ho hgk hel hev hget hvt hat hones hEE
 subst heE
 refine zi I 52 .i64 ((1 : Int) + (f.E : Int)) (((1 + f.E : Nat) : Int)) ((by rw [show ((1 : Int) + (f.E : Int)) = ((1 + f.E : Nat) : Int) by omega]; exact IntWalk.i64_in _ (by omega))) fun Al W I => ?_
 refine zx I 53 (fun _ => .slice (p8.map (·.add (1 + f.E))) ((x :: r).length - (1 + f.E)) (c8 - (1 + f.E))) (fun Al W I => i1i h0x (m := 1 + f.E) (by omega) (by have := I.fa.1.le_cap; rw [hln] at this; omega) (by have := I.fa.1.le_cap; rw [hln] at this; omega)) fun Al W I => ?_
 refine zg I (fun Al W I => have hzW := I.bel.size; (HV W (p8.map (·.add (1 + f.E))) ((x :: r).length - (1 + f.E)) (c8 - (1 + f.E)) (c1v I.fa.1.rd f.E) (by rw [List.length_drop, hlr]; omega)).out) fun Al V Iv hzV hB Kz kz => ?_
 rintro _ W ⟨p54, c54, rfl, o54, hb⟩
 refine ⟨_, rfl, kz _ _ hb fun I => ?_⟩
 clear kz Kz
 have I := I.rf o54 (hB _) Iv
 refine zi I 58 .i64 (f.g.digs - 1) ((dN : Int)) ((by rw [hdN]; exact IntWalk.i64_in _ (by omega))) fun Al W I => ?_
 refine zg I (fun Al W I => have hzW := I.bel.size; k1h (dN : Int) dN rfl (by omega) W) fun Al V Iv hzV hB Kz kz => ?_
 rintro _ W ⟨p59, c59, rfl, o59, hb⟩
 refine ⟨_, rfl, kz _ _ hb fun I => ?_⟩
 clear kz Kz
 have I := I.rf o59 (hB _) Iv
 rcases Bool.eq_false_or_eq_true ((f.fam : Int) == 2) with f67 | f67
 · refine zb I 67 ((f.fam : Int) == 2) (true) (f67) fun Al W I => ?_
   refine zd [0] I fun Al W I => ?_
   refine zk [0, 1, 2, 3] I fun I => ?_
   refine zki 4 I .i64 (f.g.lo + (e : Int)) (f.g.lo + (e : Int)) (IntWalk.i64_in _ (by omega)) fun I => ?_
   refine zk [6] I fun I => ?_
   refine zo 5 I (fun I => ?_)
   refine zg I (fun Al W I => have hzW := I.bel.size; c0z f x (lk 0 Al 2) (lk 0 Al 1) (X) p54 c54 _ (f.g.lo + (e : Int)) W I.fa.2.1 (by omega) (by omega) (I.box 2 4 _) (I.box 1 55 _)) fun Al V Iv hzV hB Kz kz => ?_
   rintro _ W ⟨pN, cN, rfl, oN, hb⟩
   have hD : f.dec x e X = ⟨2, X, f.g.lo + (e : Int)⟩ := by unfold Fm.dec; rw [if_pos (by have := beq_iff_eq.1 f67; omega)]
   refine ⟨_, rfl, kz _ _ hb fun I => ?_⟩
   clear kz Kz
   have I := I.rf oN (hB _) Iv
   refine zo 7 I (fun I => ?_)
   refine zn I fun Al W I => ?_
   refine zk [8] I fun I => ?_
   exact zret I (v := fun Al => .tuple #[.agg #[.int .i64 (((f.vr x ⟨2, X, f.g.lo + (e : Int)⟩).cls : Nat) : Int), .bool ((f.vr x ⟨2, X, f.g.lo + (e : Int)⟩).neg), .bool ((f.vr x ⟨2, X, f.g.lo + (e : Int)⟩).x.neg), .slice pN (dig B16 (f.vr x ⟨2, X, f.g.lo + (e : Int)⟩).x.m).length cN, .int .i64 ((f.vr x ⟨2, X, f.g.lo + (e : Int)⟩).x.e)], .bool x]) fun Al W I => d0s (by rw [hD]) rfl I.fa.1 (by omega) I.below
 refine zb I 67 ((f.fam : Int) == 2) (false) (f67) fun Al W I => ?_
 rcases Bool.eq_false_or_eq_true ((f.fam : Int) == 3) with f76 | f76
 · refine zb I 76 ((f.fam : Int) == 3) (true) (f76) fun Al W I => ?_
   rcases Bool.eq_false_or_eq_true ((e : Int) == 0) with f78 | f78
   · refine zb I 78 ((e : Int) == 0) (true) (f78) fun Al W I => ?_
     rcases Bool.eq_false_or_eq_true (x) with f79 | f79
     · refine zb I 79 (x) (true) (f79) fun Al W I => ?_
       refine zd [0] I fun Al W I => ?_
       have hD : f.dec x e X = ⟨5, 0, 0⟩ := by unfold Fm.dec; rw [if_neg (by have := beq_iff_eq.1 f76; omega), if_neg (by have := beq_iff_eq.1 f76; omega), if_pos ⟨by have := beq_iff_eq.1 f76; omega, by have := beq_iff_eq.1 f78; omega⟩, if_pos f79]
       refine zk [0, 1] I fun I => ?_
       refine zo 2 I (fun I => ?_)
       refine zn I fun Al W I => ?_
       refine zk [3] I fun I => ?_
       exact zret I (v := fun Al => .tuple #[.agg #[.int .i64 5, .bool false, .bool false, .slice none 0 0, .int .i64 0], .bool x]) fun Al W I => c0j (by rw [hD, m0h f x (by omega), if_neg (by omega)]) rfl I.below
     refine zb I 79 (x) (false) (f79) fun Al W I => ?_
     refine zd [0] I fun Al W I => ?_
     have hD : f.dec x e X = ⟨1, 0, 0⟩ := by unfold Fm.dec; rw [if_neg (by have := beq_iff_eq.1 f76; omega), if_neg (by have := beq_iff_eq.1 f76; omega), if_pos ⟨by have := beq_iff_eq.1 f76; omega, by have := beq_iff_eq.1 f78; omega⟩, if_neg (by rw [f79]; simp)]
     refine zk [0, 1] I fun I => ?_
     refine zo 2 I (fun I => ?_)
     refine zn I fun Al W I => ?_
     refine zk [3] I fun I => ?_
     exact zret I (v := fun Al => .tuple #[.agg #[.int .i64 1, .bool false, .bool false, .slice none 0 0, .int .i64 0], .bool x]) fun Al W I => c0j (by rw [hD, m0h f x (by omega), if_pos (by omega), f79]) rfl I.below
   refine zb I 78 ((e : Int) == 0) (false) (f78) fun Al W I => ?_
   refine zd [0] I fun Al W I => ?_
   refine zk [0, 1, 2, 4, 5] I fun I => ?_
   refine zki 6 I .i64 (f.g.lo + (e : Int)) (f.g.lo + (e : Int)) (IntWalk.i64_in _ (by omega)) fun I => ?_
   refine zki 7 I .i64 ((f.g.lo + (e : Int)) - 1) ((f.g.lo + (e : Int)) - 1) (IntWalk.i64_in _ (by omega)) fun I => ?_
   refine zk [9] I fun I => ?_
   refine zo 3 I (fun I => ?_)
   have q76 : f.fam = 3 := by have := beq_iff_eq.1 f76; omega
   have q78 : e ≠ 0 := by have := beq_eq_false_iff_ne.1 f78; omega
   have qx : f.ext = false := by cases hh : f.ext with | false => rfl | true => exact absurd (hextF hh).1 (by omega)
   have qF : dN = f.F := by have := hd1F (by omega) qx; omega
   refine zg I (fun Al W I => have hzW := I.bel.size; g1g p54 p59 _ _ c54 c59 X (2 ^ dN) (X + 2 ^ dN) W I.fa.2.1.rd I.fa.1.rd rfl rfl (by omega) (by omega) rfl) fun Al V Iv hzV hB Kz kz => ?_
   rintro _ W ⟨p87, c87, rfl, o87, hb⟩
   refine ⟨_, rfl, kz _ _ hb fun I => ?_⟩
   clear kz Kz
   have I := I.rf o87 (hB _) Iv
   refine zo 8 I (fun I => ?_)
   refine zg I (fun Al W I => have hzW := I.bel.size; c0z f x (lk 0 Al 2) (lk 0 Al 1) (X + 2 ^ dN) p87 c87 _ (f.g.lo + (e : Int) - 1) W I.fa.1 (by have := d0h (x := X + 2 ^ dN) (n := 122) (k := 8) (n0l hXlt (by omega) (by omega)) (by omega); omega) (by omega) (I.box 2 4 _) (I.box 1 55 _)) fun Al V Iv hzV hB Kz kz => ?_
   rintro _ W ⟨pN, cN, rfl, oN, hb⟩
   have hD : f.dec x e X = ⟨2, X + 2 ^ dN, f.g.lo + e - 1⟩ := by unfold Fm.dec; rw [if_neg (by omega), if_neg (by omega), if_neg (by omega), if_neg q78, if_pos qx, qF]
   refine ⟨_, rfl, kz _ _ hb fun I => ?_⟩
   clear kz Kz
   have I := I.rf oN (hB _) Iv
   refine zo 10 I (fun I => ?_)
   refine zn I fun Al W I => ?_
   refine zk [11] I fun I => ?_
   exact zret I (v := fun Al => .tuple #[.agg #[.int .i64 (((f.vr x ⟨2, X + 2 ^ dN, f.g.lo + (e : Int) - 1⟩).cls : Nat) : Int), .bool ((f.vr x ⟨2, X + 2 ^ dN, f.g.lo + (e : Int) - 1⟩).neg), .bool ((f.vr x ⟨2, X + 2 ^ dN, f.g.lo + (e : Int) - 1⟩).x.neg), .slice pN (dig B16 (f.vr x ⟨2, X + 2 ^ dN, f.g.lo + (e : Int) - 1⟩).x.m).length cN, .int .i64 ((f.vr x ⟨2, X + 2 ^ dN, f.g.lo + (e : Int) - 1⟩).x.e)], .bool x]) fun Al W I => d0s (by rw [hD]) rfl I.fa.1 (by omega) I.below
 refine zb I 76 ((f.fam : Int) == 3) (false) (f76) fun Al W I => ?_
 have q1 : f.fam = 1 := by have := beq_eq_false_iff_ne.1 f67; have := beq_eq_false_iff_ne.1 f76; omega
 rcases Bool.eq_false_or_eq_true (n == 3) with f95 | f95
 · refine zb I 95 (n == 3) (true) (f95) fun Al W I => ?_
   have qx : f.ext = true := by rw [hext]; exact decide_eq_true (beq_iff_eq.1 f95)
   have qN : dN = 63 := by have := (hextF qx).2.2; omega
   rcases Bool.eq_false_or_eq_true (o) with f96 | f96
   · refine zb I 96 (o) (true) (f96) fun Al W I => ?_
     refine zg I (fun Al W I => have hzW := I.bel.size; h0f p54 p59 _ _ c54 c59 X (2 ^ dN) W I.fa.2.1.rd I.fa.1.rd rfl rfl (by omega) (by omega)) fun Al V Iv hzV hB Kz kz => ?_
     rintro _ W ⟨rfl, hb⟩
     refine ⟨_, rfl, kz _ _ hb fun I => ?_⟩
     clear kz Kz
     rcases Bool.eq_false_or_eq_true ((cmpN X (2 ^ dN)) == 0) with f100 | f100
     · refine zb I 100 ((cmpN X (2 ^ dN)) == 0) (true) (f100) fun Al W I => ?_
       refine zd [0] I fun Al W I => ?_
       have hD : f.dec x e X = ⟨3, 0, 0⟩ := by unfold Fm.dec; rw [if_neg (by omega), if_pos ⟨q1, hoE.1 f96⟩, if_pos (.inr ⟨qx, by have := r0b (beq_iff_eq.1 f100); rw [qN] at this; exact this⟩)]
       refine zk [0, 1, 2] I fun I => ?_
       refine zo 3 I (fun I => ?_)
       refine zn I fun Al W I => ?_
       refine zk [4] I fun I => ?_
       exact zret I (v := fun Al => .tuple #[.agg #[.int .i64 3, .bool x, .bool false, .slice none 0 0, .int .i64 0], .bool x]) fun Al W I => c0j (by rw [hD, m0h f x (by omega), if_pos (by omega)]) rfl I.below
     refine zb I 100 ((cmpN X (2 ^ dN)) == 0) (false) (f100) fun Al W I => ?_
     refine zd [0] I fun Al W I => ?_
     have hD : f.dec x e X = ⟨4, 0, 0⟩ := by unfold Fm.dec; rw [if_neg (by omega), if_pos ⟨q1, hoE.1 f96⟩, if_neg (fun h => by rcases h with h | h <;> first | (have k := h.1; rw [qx] at k; cases k; done) | (have k := beq_eq_false_iff_ne.1 f100; apply k; rw [qN, h.2]; exact r0r _))]
     refine zk [0, 1] I fun I => ?_
     refine zo 2 I (fun I => ?_)
     refine zn I fun Al W I => ?_
     refine zk [3] I fun I => ?_
     exact zret I (v := fun Al => .tuple #[.agg #[.int .i64 4, .bool false, .bool false, .slice none 0 0, .int .i64 0], .bool x]) fun Al W I => c0j (by rw [hD, m0h f x (by omega), if_neg (by omega)]) rfl I.below
   refine zb I 96 (o) (false) (f96) fun Al W I => ?_
   have qo : ¬ (f.fam = 1 ∧ e = 2 ^ f.E - 1) := fun h => by have k := hoE.2 h.2; first | (rw [f96] at k; cases k; done)
   rcases Bool.eq_false_or_eq_true (decide ((e : Int) > 0)) with f107 | f107
   · refine zb I 107 (decide ((e : Int) > 0)) (true) (f107) fun Al W I => ?_
     refine zg I (fun Al W I => have hzW := I.bel.size; h0f p54 p59 _ _ c54 c59 X (2 ^ dN) W I.fa.2.1.rd I.fa.1.rd rfl rfl (by omega) (by omega)) fun Al V Iv hzV hB Kz kz => ?_
     rintro _ W ⟨rfl, hb⟩
     refine ⟨_, rfl, kz _ _ hb fun I => ?_⟩
     clear kz Kz
     rcases Bool.eq_false_or_eq_true (decide ((cmpN X (2 ^ dN)) < 0)) with f112 | f112
     · refine zb I 112 (decide ((cmpN X (2 ^ dN)) < 0)) (true) (f112) fun Al W I => ?_
       refine zd [0] I fun Al W I => ?_
       have hD : f.dec x e X = ⟨4, 0, 0⟩ := by unfold Fm.dec; rw [if_neg (by omega), if_neg qo, if_neg (by omega), if_neg (by have := of_decide_eq_true f107; omega), if_neg (by rw [qx]; simp), if_pos (by have k := c1u (of_decide_eq_true f112); rw [qN] at k; exact k)]
       refine zk [0, 1] I fun I => ?_
       refine zo 2 I (fun I => ?_)
       refine zn I fun Al W I => ?_
       refine zk [3] I fun I => ?_
       exact zret I (v := fun Al => .tuple #[.agg #[.int .i64 4, .bool false, .bool false, .slice none 0 0, .int .i64 0], .bool x]) fun Al W I => c0j (by rw [hD, m0h f x (by omega), if_neg (by omega)]) rfl I.below
     refine zb I 112 (decide ((cmpN X (2 ^ dN)) < 0)) (false) (f112) fun Al W I => ?_
     refine zd [0] I fun Al W I => ?_
     refine zk [0, 1, 2, 3] I fun I => ?_
     refine zki 4 I .i64 ((e : Int) - 1) ((e : Int) - 1) (IntWalk.i64_in _ (by omega)) fun I => ?_
     refine zkm 5 I .i64 (if (((e : Int) - 1) : Int) > 0 then ((e : Int) - 1) else 0) (((e - 1 : Nat) : Int)) ((by split <;> omega)) fun I => ?_
     refine zki 6 I .i64 (f.g.lo + ((e - 1 : Nat) : Int)) (f.g.lo + ((e - 1 : Nat) : Int)) (IntWalk.i64_in _ (by omega)) fun I => ?_
     refine zk [8] I fun I => ?_
     refine zo 7 I (fun I => ?_)
     refine zg I (fun Al W I => have hzW := I.bel.size; c0z f x (lk 0 Al 2) (lk 0 Al 1) X p54 c54 _ (f.g.lo + ((e - 1 : Nat) : Int)) W I.fa.2.1 (by omega) (by omega) (I.box 2 4 _) (I.box 1 55 _)) fun Al V Iv hzV hB Kz kz => ?_
     rintro _ W ⟨pN, cN, rfl, oN, hb⟩
     have hD : f.dec x e X = ⟨2, X, f.g.lo + ((e - 1 : Nat) : Int)⟩ := by unfold Fm.dec; rw [if_neg (by omega), if_neg qo, if_neg (by omega), if_neg (by have := of_decide_eq_true f107; omega), if_neg (by rw [qx]; simp), if_neg (by have k := s0y (of_decide_eq_false f112); rw [qN] at k; exact k)]; simp only [Dc.mk.injEq, true_and]; have := of_decide_eq_true f107; omega
     refine ⟨_, rfl, kz _ _ hb fun I => ?_⟩
     clear kz Kz
     have I := I.rf oN (hB _) Iv
     refine zo 9 I (fun I => ?_)
     refine zn I fun Al W I => ?_
     refine zk [10] I fun I => ?_
     exact zret I (v := fun Al => .tuple #[.agg #[.int .i64 (((f.vr x ⟨2, X, f.g.lo + ((e - 1 : Nat) : Int)⟩).cls : Nat) : Int), .bool ((f.vr x ⟨2, X, f.g.lo + ((e - 1 : Nat) : Int)⟩).neg), .bool ((f.vr x ⟨2, X, f.g.lo + ((e - 1 : Nat) : Int)⟩).x.neg), .slice pN (dig B16 (f.vr x ⟨2, X, f.g.lo + ((e - 1 : Nat) : Int)⟩).x.m).length cN, .int .i64 ((f.vr x ⟨2, X, f.g.lo + ((e - 1 : Nat) : Int)⟩).x.e)], .bool x]) fun Al W I => d0s (by rw [hD]) rfl I.fa.1 (by omega) I.below
   refine zb I 107 (decide ((e : Int) > 0)) (false) (f107) fun Al W I => ?_
   refine zd [0] I fun Al W I => ?_
   refine zk [0, 1, 2, 3] I fun I => ?_
   refine zki 4 I .i64 ((e : Int) - 1) ((e : Int) - 1) (IntWalk.i64_in _ (by omega)) fun I => ?_
   refine zkm 5 I .i64 (if (((e : Int) - 1) : Int) > 0 then ((e : Int) - 1) else 0) (((e - 1 : Nat) : Int)) ((by split <;> omega)) fun I => ?_
   refine zki 6 I .i64 (f.g.lo + ((e - 1 : Nat) : Int)) (f.g.lo + ((e - 1 : Nat) : Int)) (IntWalk.i64_in _ (by omega)) fun I => ?_
   refine zk [8] I fun I => ?_
   refine zo 7 I (fun I => ?_)
   refine zg I (fun Al W I => have hzW := I.bel.size; c0z f x (lk 0 Al 2) (lk 0 Al 1) X p54 c54 _ (f.g.lo + ((e - 1 : Nat) : Int)) W I.fa.2.1 (by omega) (by omega) (I.box 2 4 _) (I.box 1 55 _)) fun Al V Iv hzV hB Kz kz => ?_
   rintro _ W ⟨pN, cN, rfl, oN, hb⟩
   have hD : f.dec x e X = ⟨2, X, f.g.lo + ((e - 1 : Nat) : Int)⟩ := by unfold Fm.dec; rw [if_neg (by omega), if_neg qo, if_neg (by omega), if_pos (by have := of_decide_eq_false f107; omega)]; simp only [Dc.mk.injEq, true_and]; have := of_decide_eq_false f107; omega
   refine ⟨_, rfl, kz _ _ hb fun I => ?_⟩
   clear kz Kz
   have I := I.rf oN (hB _) Iv
   refine zo 9 I (fun I => ?_)
   refine zn I fun Al W I => ?_
   refine zk [10] I fun I => ?_
   exact zret I (v := fun Al => .tuple #[.agg #[.int .i64 (((f.vr x ⟨2, X, f.g.lo + ((e - 1 : Nat) : Int)⟩).cls : Nat) : Int), .bool ((f.vr x ⟨2, X, f.g.lo + ((e - 1 : Nat) : Int)⟩).neg), .bool ((f.vr x ⟨2, X, f.g.lo + ((e - 1 : Nat) : Int)⟩).x.neg), .slice pN (dig B16 (f.vr x ⟨2, X, f.g.lo + ((e - 1 : Nat) : Int)⟩).x.m).length cN, .int .i64 ((f.vr x ⟨2, X, f.g.lo + ((e - 1 : Nat) : Int)⟩).x.e)], .bool x]) fun Al W I => d0s (by rw [hD]) rfl I.fa.1 (by omega) I.below
 refine zb I 95 (n == 3) (false) (f95) fun Al W I => ?_
 have qx : f.ext = false := by rw [hext]; exact decide_eq_false (beq_eq_false_iff_ne.1 f95)
 have qF : dN = f.F := by have := hd1F (by omega) qx; omega
 rcases Bool.eq_false_or_eq_true (o) with f125 | f125
 · refine zb I 125 (o) (true) (f125) fun Al W I => ?_
   rcases Bool.eq_false_or_eq_true ((((dig B16 X).length : Nat) : Int) == 0) with f128 | f128
   · refine zb I 128 ((((dig B16 X).length : Nat) : Int) == 0) (true) (f128) fun Al W I => ?_
     refine zd [0] I fun Al W I => ?_
     have hD : f.dec x e X = ⟨3, 0, 0⟩ := by unfold Fm.dec; rw [if_neg (by omega), if_pos ⟨q1, hoE.1 f125⟩, if_pos (.inl ⟨qx, hX0.1 (by have := beq_iff_eq.1 f128; omega)⟩)]
     refine zk [0, 1, 2] I fun I => ?_
     refine zo 3 I (fun I => ?_)
     refine zn I fun Al W I => ?_
     refine zk [4] I fun I => ?_
     exact zret I (v := fun Al => .tuple #[.agg #[.int .i64 3, .bool x, .bool false, .slice none 0 0, .int .i64 0], .bool x]) fun Al W I => c0j (by rw [hD, m0h f x (by omega), if_pos (by omega)]) rfl I.below
   refine zb I 128 ((((dig B16 X).length : Nat) : Int) == 0) (false) (f128) fun Al W I => ?_
   refine zd [0] I fun Al W I => ?_
   have hD : f.dec x e X = ⟨4, 0, 0⟩ := by unfold Fm.dec; rw [if_neg (by omega), if_pos ⟨q1, hoE.1 f125⟩, if_neg (fun h => by rcases h with h | h <;> first | (have k := h.1; rw [qx] at k; cases k; done) | (have k := beq_eq_false_iff_ne.1 f128; have k2 := hX0.2 h.2; omega))]
   refine zk [0, 1] I fun I => ?_
   refine zo 2 I (fun I => ?_)
   refine zn I fun Al W I => ?_
   refine zk [3] I fun I => ?_
   exact zret I (v := fun Al => .tuple #[.agg #[.int .i64 4, .bool false, .bool false, .slice none 0 0, .int .i64 0], .bool x]) fun Al W I => c0j (by rw [hD, m0h f x (by omega), if_neg (by omega)]) rfl I.below
 refine zb I 125 (o) (false) (f125) fun Al W I => ?_
 have qo : ¬ (f.fam = 1 ∧ e = 2 ^ f.E - 1) := fun h => by have k := hoE.2 h.2; rw [f125] at k; cases k
 rcases Bool.eq_false_or_eq_true (decide ((e : Int) > 0)) with f135 | f135
 · refine zb I 135 (decide ((e : Int) > 0)) (true) (f135) fun Al W I => ?_
   refine zg I (fun Al W I => have hzW := I.bel.size; g1g p54 p59 _ _ c54 c59 X (2 ^ dN) (X + 2 ^ dN) W I.fa.2.1.rd I.fa.1.rd rfl rfl (by omega) (by omega) rfl) fun Al V Iv hzV hB Kz kz => ?_
   rintro _ W ⟨p138, c138, rfl, o138, hb⟩
   refine ⟨_, rfl, kz _ _ hb fun I => ?_⟩
   clear kz Kz
   have I := I.rf o138 (hB _) Iv
   refine zd [0] I fun Al W I => ?_
   refine zk [0, 1, 2, 3] I fun I => ?_
   refine zki 4 I .i64 ((e : Int) - 1) ((e : Int) - 1) (IntWalk.i64_in _ (by omega)) fun I => ?_
   refine zkm 5 I .i64 (if (((e : Int) - 1) : Int) > 0 then ((e : Int) - 1) else 0) (((e - 1 : Nat) : Int)) ((by split <;> omega)) fun I => ?_
   refine zki 6 I .i64 (f.g.lo + ((e - 1 : Nat) : Int)) (f.g.lo + ((e - 1 : Nat) : Int)) (IntWalk.i64_in _ (by omega)) fun I => ?_
   refine zk [8] I fun I => ?_
   refine zo 7 I (fun I => ?_)
   refine zg I (fun Al W I => have hzW := I.bel.size; c0z f x (lk 0 Al 2) (lk 0 Al 1) (X + 2 ^ dN) p138 c138 _ (f.g.lo + ((e - 1 : Nat) : Int)) W I.fa.1 (by have := d0h (x := X + 2 ^ dN) (n := 122) (k := 8) (n0l hXlt (by omega) (by omega)) (by omega); omega) (by omega) (I.box 2 4 _) (I.box 1 55 _)) fun Al V Iv hzV hB Kz kz => ?_
   rintro _ W ⟨pN, cN, rfl, oN, hb⟩
   have hD : f.dec x e X = ⟨2, X + 2 ^ dN, f.g.lo + ((e - 1 : Nat) : Int)⟩ := by unfold Fm.dec; rw [if_neg (by omega), if_neg qo, if_neg (by omega), if_neg (by have := of_decide_eq_true f135; omega), if_pos qx, qF]; simp only [Dc.mk.injEq, true_and]; have := of_decide_eq_true f135; omega
   refine ⟨_, rfl, kz _ _ hb fun I => ?_⟩
   clear kz Kz
   have I := I.rf oN (hB _) Iv
   refine zo 9 I (fun I => ?_)
   refine zn I fun Al W I => ?_
   refine zk [10] I fun I => ?_
   exact zret I (v := fun Al => .tuple #[.agg #[.int .i64 (((f.vr x ⟨2, X + 2 ^ dN, f.g.lo + ((e - 1 : Nat) : Int)⟩).cls : Nat) : Int), .bool ((f.vr x ⟨2, X + 2 ^ dN, f.g.lo + ((e - 1 : Nat) : Int)⟩).neg), .bool ((f.vr x ⟨2, X + 2 ^ dN, f.g.lo + ((e - 1 : Nat) : Int)⟩).x.neg), .slice pN (dig B16 (f.vr x ⟨2, X + 2 ^ dN, f.g.lo + ((e - 1 : Nat) : Int)⟩).x.m).length cN, .int .i64 ((f.vr x ⟨2, X + 2 ^ dN, f.g.lo + ((e - 1 : Nat) : Int)⟩).x.e)], .bool x]) fun Al W I => d0s (by rw [hD]) rfl I.fa.1 (by omega) I.below
 refine zb I 135 (decide ((e : Int) > 0)) (false) (f135) fun Al W I => ?_
 refine zd [0] I fun Al W I => ?_
 refine zk [0, 1, 2, 3] I fun I => ?_
 refine zki 4 I .i64 ((e : Int) - 1) ((e : Int) - 1) (IntWalk.i64_in _ (by omega)) fun I => ?_
 refine zkm 5 I .i64 (if (((e : Int) - 1) : Int) > 0 then ((e : Int) - 1) else 0) (((e - 1 : Nat) : Int)) ((by split <;> omega)) fun I => ?_
 refine zki 6 I .i64 (f.g.lo + ((e - 1 : Nat) : Int)) (f.g.lo + ((e - 1 : Nat) : Int)) (IntWalk.i64_in _ (by omega)) fun I => ?_
 refine zk [8] I fun I => ?_
 refine zo 7 I (fun I => ?_)
 refine zg I (fun Al W I => have hzW := I.bel.size; c0z f x (lk 0 Al 2) (lk 0 Al 1) X p54 c54 _ (f.g.lo + ((e - 1 : Nat) : Int)) W I.fa.2.1 (by omega) (by omega) (I.box 2 4 _) (I.box 1 55 _)) fun Al V Iv hzV hB Kz kz => ?_
 rintro _ W ⟨pN, cN, rfl, oN, hb⟩
 have hD : f.dec x e X = ⟨2, X, f.g.lo + ((e - 1 : Nat) : Int)⟩ := by unfold Fm.dec; rw [if_neg (by omega), if_neg qo, if_neg (by omega), if_pos (by have := of_decide_eq_false f135; omega)]; simp only [Dc.mk.injEq, true_and]; have := of_decide_eq_false f135; omega
 refine ⟨_, rfl, kz _ _ hb fun I => ?_⟩
 clear kz Kz
 have I := I.rf oN (hB _) Iv
 refine zo 9 I (fun I => ?_)
 refine zn I fun Al W I => ?_
 refine zk [10] I fun I => ?_
 exact zret I (v := fun Al => .tuple #[.agg #[.int .i64 (((f.vr x ⟨2, X, f.g.lo + ((e - 1 : Nat) : Int)⟩).cls : Nat) : Int), .bool ((f.vr x ⟨2, X, f.g.lo + ((e - 1 : Nat) : Int)⟩).neg), .bool ((f.vr x ⟨2, X, f.g.lo + ((e - 1 : Nat) : Int)⟩).x.neg), .slice pN (dig B16 (f.vr x ⟨2, X, f.g.lo + ((e - 1 : Nat) : Int)⟩).x.m).length cN, .int .i64 ((f.vr x ⟨2, X, f.g.lo + ((e - 1 : Nat) : Int)⟩).x.e)], .bool x]) fun Al W I => d0s (by rw [hD]) rfl I.fa.1 (by omega) I.below
end Go.Proofs.YtlcdfnaaenibgaaGreatDoor
namespace Go.Slip
theorem p0e {xs : List Nat} (h : ∀ x ∈ xs, x < 256) : a0z (b0s xs) = xs := by
 unfold a0z b0s
 simp only [List.map_map]
 rw [show (xs.map (UInt8.toNat ∘ UInt8.ofNat)) = xs.map id from List.map_congr_left fun x hx => by
  have := h x hx
  simp only [Function.comp, id]
  rw [UInt8.toNat_ofNat']
  omega]
 simp
theorem z0z {w : World} {b : Nat} {t : TypeId} {k : IntKind} {x0 x1 x2 x3 : Nat} (h : Bt w b t #[.int k (x0 : Int), .int k (x1 : Int), .int k (x2 : Int), .int k (x3 : Int)]) : Rd w k (some ⟨b, 0, none⟩) [x0, x1, x2, x3] := by
 refine ⟨fun _ => ⟨rfl, rfl⟩, fun j hj => ?_⟩
 obtain ⟨h0, h1, h2, h3⟩ := h.bx.e4
 simp only [List.length_cons, List.length_nil] at hj
 match j, hj with
 | 0, _ => exact h0
 | 1, _ => exact h1
 | 2, _ => exact h2
 | 3, _ => exact h3
theorem c1w {P : Program} {a : Act} {w : World} {x y : Operand} {dst : Option Tmp} {t t2 tt : TypeId} {pos : String} {af : Array Edge} {g : Option (Nat × Bool)} {s : ByteArray} (hx : a.eval x = .string s) (hy : a.eval y = .string s) :
 (execOp a.eval ⟨dst, .binOp .eql t x y tt, t2, pos, af, g⟩).run P w = .ok (.value (.bool true)) w := by
 unfold execOp
 simp only [hx, hy]
 simp [go_sem, eqGuard]
end Go.Slip
namespace Go.Proofs.YtlcdfnaaenibgaaGreatDoor
open Go.RowKit Go.Slip

def s0z (n cls : Int) (a : Din) : Int := if IsFm n then a0k (fmt n) cls a else 6
theorem v0w (n : Int) (cls : Int) (a : Din) (w : World) (ha : InD w a) (hT : TabW w) :
 Calls Tryz.prog 107 #[.int .i64 n, .agg #[.int .i64 cls, .bool a.g, .slice a.p a.xs.length a.c, .int .i64 a.e]] w (r0f w (s0z n cls a) (n0k (fmt n) cls a)) := by
 unfold s0z
 by_cases hn : IsFm n
 · rw [if_pos hn]; exact z0y n cls a w hn ha hT
 · rw [if_neg hn]
   have HF := fun W => Lib.hid (l0t n hn W)
   generalize n0k (fmt n) cls a = s
   have hT146 : d0p Tryz.prog 146 12 := c0h (by kernel_rfl) (by kernel_rfl)
   refine calls_of_wp Tryz.func107 rfl ?_
   refine a0x (a' := ⟨((.int .i64 n) :: (.agg #[.int .i64 cls, .bool a.g, .slice a.p a.xs.length a.c, .int .i64 a.e]) :: us 145 []).toArray, []⟩) (by kernel_rfl) ?_
   refine ye ?_
   refine yw 0 rfl 3 #[.int .i64 cls, .bool a.g, .slice a.p a.xs.length a.c, .int .i64 a.e] 70 (fun V1 hbV1 hzV1 b3 => ?_)
   refine yzt 2 ?_
   refine ye ?_
   refine yc 1 rfl 13 ((HF V1).out) (fun Gx hGx => ?_)
   rintro eV2 V2 ⟨rfl, hbV2⟩
   have hzV2 := hbV2.size
   refine ⟨_, rfl, hGx _ _ ?_⟩
   clear hGx Gx
   refine yw 3 rfl 6 #[.int .i64 0, .int .i64 0, .int .i64 0, .int .i64 0, .int .i64 0, .int .i64 0, .int .i64 0, .bool false, .bool false, .bool false, .bool false, .nilFunc] 146 (fun V3 hbV3 hzV3 b6 => ?_)
   have boV4 := b6
   refine ysw 0 rfl b6 hT146 #[.int .i64 0, .int .i64 0, .int .i64 0, .int .i64 0, .int .i64 0, .int .i64 0, .int .i64 0, .bool false, .bool false, .bool false, .bool false, .nilFunc] ?_
   clear b6
   intro V4 hOV4 b6
   have hzV4 := hOV4.size
   refine yzt 1 ?_
   refine wp_seq ?_
   refine yq ?_
   refine yT ?_
   refine yq ?_
   refine wp_ret ?_
   repeat (first | with_reducible refine a0t ?_ | with_reducible refine a0n ?_)
   refine yret (.tuple #[Go.Value.string (ByteArray.mk #[]), .int .i64 6]) (res2 Tryz.results107 rvt rvt) ?_
   exact a0m (r := 6) rfl (by decide) rfl ((a0d (a0d hbV1 hbV2) hbV3).trans (hOV4.below (by omega)))


theorem v0x (f : Fm) {k : Nat} (h : k ≠ 2) (g : Bool) (d d' : Dv) : f.encP k g d = f.encP k g d' := by
 unfold Fm.encP
 rw [if_neg h, if_neg h]

theorem p0f {r : Nat} (h : (dig B32 r).length ≤ 1200) : b0r (dig B32 r) = 0 := by rw [Go.Slip.u0p, if_neg (by omega)]
structure Is (a : Din) (v : Vl) : Prop where
 g : a.g = v.neg
 xs : a.xs = dig B32 v.d
 e : a.e = v.pow
theorem Is.num {a : Din} {v : Vl} (h : Is a v) (f : Fm) : numD f a = bare ⟨v.neg, v.d, wid f.g * v.pow⟩ := by
 unfold numD
 rw [h.g, h.xs, h.e, a0y a0a]


def dinV (v : Vl) (p : Option Addr) (c : Nat) : Din := ⟨v.neg, p, c, dig B32 v.d, v.pow⟩
theorem g1m {v : Vl} {p : Option Addr} {c base : Nat} {w : World} (h : Own w base .u32 160 p c (dig B32 v.d)) (hl : (dig B32 v.d).length ≤ 1000) : InD w (dinV v p c) :=
 ⟨h.rd, h.le_cap, by show (dig B32 v.d).length ≤ _; omega, b0k a0a _⟩

structure ResF (f : Fm) (r : Vr) : Prop where
 c : 1 ≤ r.cls ∧ r.cls ≤ 5
 c1 : r.cls = 1 → r.neg = true → f.fam ≠ 3
 c2 : r.cls = 2 → b0t r.x f.g = true ∧ Bare r.x ∧ r.x.m ≠ 0 ∧ r.x.neg = r.neg
 c3 : r.cls = 3 → f.fam = 1
 c4 : r.cls = 4 → f.fam = 1 ∧ r.neg = false
 c5 : r.cls = 5 → f.fam = 3 ∧ r.neg = false
 x0 : r.cls ≠ 2 → r.x = vz

structure VRep (f : Fm) (v : Vl) (r : Vr) : Prop where
 cls : v.cls = r.cls
 neg : v.neg = r.neg
 num : r.cls = 2 → bare ⟨v.neg, v.d, wid f.g * v.pow⟩ = r.x
 oth : r.cls ≠ 2 → v.d = 0 ∧ v.pow = 0
 len : (dig B32 v.d).length ≤ 1000
 lo : -20000 ≤ v.pow
 hi : v.pow ≤ 20000

theorem j1b {f : Fm} {v : Vl} {r : Vr} (R : ResF f r) (V : VRep f v r) (p : Option Addr) (c : Nat) :
 a0k f (v.cls : Int) (dinV v p c) = 0 ∧ n0k f (v.cls : Int) (dinV v p c) = b0s (f.strP (f.encP r.cls r.neg r.x)) := by
 have hinf : f.inf = false ↔ f.fam ≠ 1 := by unfold Fm.inf; simp
 have hres : f.res = false ↔ f.fam ≠ 3 := by unfold Fm.res; simp
 have hres1 : f.res = true ↔ f.fam = 3 := by unfold Fm.res; simp
 have hc := R.c
 have hcl := V.cls
 have hlo := V.lo
 have hhi := V.hi
 have hE : b0r (dinV v p c).xs = 0 := p0f (by have := V.len; omega)
 have hN : r.cls = 2 → numD f (dinV v p c) = r.x := fun h => by
  rw [← V.num h]
  unfold numD dinV
  simp only [a0y a0a]
 refine ⟨?_, ?_⟩
 · unfold a0k
   rw [if_neg (by omega), if_neg (by omega), if_neg]
   · by_cases h2 : r.cls = 2
     · obtain ⟨i1, i2, i3, i4⟩ := R.c2 h2
       rw [if_pos (by omega), if_neg (by show ¬ (v.pow < _ ∨ _ < v.pow); omega), hN h2, i1, if_neg]
       rintro (h | h)
       · have h0 : v.d = 0 := (a0e a0a _).1 h
         have := V.num h2
         rw [h0] at this
         exact i3 (by rw [← this]; rfl)
       · cases h
     · obtain ⟨o1, o2⟩ := V.oth h2
       rw [if_neg (by omega), if_neg]
       rintro (h | h | ⟨h, k⟩)
       · have : (dig B32 v.d).length = 0 := by rw [o1, a0c]; rfl
         have h : 0 < (dig B32 v.d).length := h
         omega
       · exact h o2
       · have hg : r.neg = true := by rw [← V.neg]; exact h
         have k4 := R.c4
         have k5 := R.c5
         rw [hg] at k4 k5
         rcases k with k | k
         · rcases (show r.cls = 4 ∨ r.cls = 5 by omega) with q | q
           · exact absurd (k4 q).2 (by decide)
           · exact absurd (k5 q).2 (by decide)
         · rcases (show r.cls = 1 ∨ r.cls = 3 ∨ r.cls = 4 ∨ r.cls = 5 by omega) with q | q | q | q
           · exact R.c1 q hg (hres1.1 k)
           · have := R.c3 q; have := hres1.1 k; omega
           · exact absurd (k4 q).2 (by decide)
           · exact absurd (k5 q).2 (by decide)
   · rintro (⟨h | h, k⟩ | ⟨h, k⟩)
     · exact hinf.1 k (R.c3 (by omega))
     · exact hinf.1 k (R.c4 (by omega)).1
     · exact hres.1 k (R.c5 (by omega)).1
 · unfold n0k
   rw [show ((v.cls : Int)).toNat = r.cls by omega, show (dinV v p c).g = r.neg from V.neg]
   by_cases h2 : r.cls = 2
   · rw [hN h2]
   · rw [v0x f h2 r.neg _ r.x]

theorem j1c {neg : Bool} {num den : Nat} {e : Int} {g : Gd} {way : Int} (hd : 0 < den) (G : j0h g) (ho : (a0w neg num den e g way).over = false)
 (hu : (a0w neg num den e g way).under = true → g.grad = false → g.lo ≤ (a0w neg num den e g way).pow ∧ (a0w neg num den e g way).d ≠ 0) :
 b0t (rv neg num den e g way) g = true := by
 by_cases hok : okP (a0w neg num den e g way) g = true
 · exact k1j hd G hok
 · unfold okP at hok
   rw [ho] at hok
   simp only [Bool.not_false, Bool.true_and, Bool.or_eq_true, Bool.not_eq_true', not_or, Bool.not_eq_false, Bool.not_eq_true] at hok
   obtain ⟨h1, h2⟩ := hok
   obtain ⟨h3, h4⟩ := hu h1 h2
   by_cases h0 : num = 0
   · subst h0; rw [z0w]; rfl
   · unfold rv
     unfold a0w at *
     rw [if_neg h0] at *
     generalize theK num den e (wid g) g.digs.toNat = K at *
     have hk : K < g.lo := of_decide_eq_true h1
     have hp : powK g K = K := by unfold powK; rw [if_neg (fun h => by rw [h2] at h; cases h.2)]
     have e1 : (fitK neg num den e g way K).pow = if digP neg num den e (wid g) g.digs.toNat way (powK g K) = 0 then 0 else powP neg num den e (wid g) g.digs.toNat way (powK g K) := rfl
     have e2 : (fitK neg num den e g way K).d = digP neg num den e (wid g) g.digs.toNat way (powK g K) := rfl
     have e3 : (fitK neg num den e g way K).neg = neg := rfl
     rw [e2] at h4
     rw [e1, if_neg h4] at h3
     rw [e1, e2, e3, if_neg h4]
     rw [hp] at h3 h4 ⊢
     have hl : i0k neg num den e (wid g) g.digs.toNat way K := by
      by_cases h : i0k neg num den e (wid g) g.digs.toNat way K
      · exact h
      · unfold powP at h3; rw [if_neg h] at h3; omega
     unfold digP powP at *
     rw [if_pos hl] at h3
     rw [if_pos hl, if_pos hl]
     have hd1 := G.d1
     have hgl := G.le
     have hww : wid g * (g.digs.toNat - 1) < wid g * g.digs.toNat := Nat.mul_lt_mul_of_pos_left (by omega) (b0n g).1
     have habs : (sg neg (2 ^ (wid g * (g.digs.toNat - 1)))).natAbs = 2 ^ (wid g * (g.digs.toNat - 1)) := by unfold sg; cases neg <;> simp [Int.natAbs_pow]
     rw [← l0e]
     refine h0v G (show g.digs = (g.digs.toNat : Int) by omega) ?_ ?_ h3 (by omega)
     · rw [habs]; exact Nat.pow_lt_pow_right (by omega) hww
     · rw [habs]; exact .inr (.inl (Nat.le_refl _))
theorem p0g {g : Bool} {m : Nat} {e : Int} (h : m ≠ 0) : (bare ⟨g, m, e⟩).neg = g ∧ (bare ⟨g, m, e⟩).m ≠ 0 := by
 unfold bare
 rw [if_neg h]
 refine ⟨rfl, fun h2 => ?_⟩
 have := (c0s m (by omega)).2
 simp only at h2
 rw [h2] at this
 simp at this

/-! ### What comes -/
theorem p0h {f : Fm} (G : c0t f) (g : Bool) : ResF f (f.zeroM g) := by
 have := G.fam
 refine ⟨by show 1 ≤ 1 ∧ 1 ≤ 5; omega, fun _ h h3 => ?_, fun h => (by cases h), fun h => (by cases h), fun h => (by cases h), fun h => (by cases h), fun _ => rfl⟩
 have h : (g && decide (f.fam = 1)) = true := h
 simp [h3] at h
theorem j0u {f : Fm} (G : c0t f) : ResF f f.nothM := by
 have hf := G.fam
 unfold Fm.nothM
 rcases hf with h | h | h <;> rw [h] <;> refine ⟨?_, ?_, ?_, ?_, ?_, ?_, fun _ => rfl⟩ <;> simp [h]
theorem j1d {f : Fm} (h : f.fam = 1) (g : Bool) : ResF f (infM g) :=
 ⟨by show 1 ≤ 3 ∧ 3 ≤ 5; omega, fun h => (by cases h), fun h => (by cases h), fun _ => h, fun h => (by cases h), fun h => (by cases h), fun _ => rfl⟩
theorem c1x {f : Fm} (G : c0t f) (g : Bool) : 2 ^ (wid f.g * f.g.digs.toNat) - 1 ≠ 0 ∧ b0t (f.greatM g).x f.g = true := by
 have GG := c0g G.g
 have hd1 := GG.d1
 have hgl := GG.le
 have wp := b0n f.g
 have hww : wid f.g * (f.g.digs.toNat - 1) < wid f.g * f.g.digs.toNat := Nat.mul_lt_mul_of_pos_left (by omega) wp.1
 have h1 : 2 ^ (wid f.g * (f.g.digs.toNat - 1)) < 2 ^ (wid f.g * f.g.digs.toNat) := Nat.pow_lt_pow_right (by omega) hww
 have h2 : 0 < 2 ^ (wid f.g * (f.g.digs.toNat - 1)) := Nat.pow_pos (by omega)
 refine ⟨by omega, ?_⟩
 show b0t (bare ⟨g, 2 ^ (wid f.g * f.g.digs.toNat) - 1, wid f.g * f.g.hi⟩) f.g = true
 have habs : (sg g (2 ^ (wid f.g * f.g.digs.toNat) - 1)).natAbs = 2 ^ (wid f.g * f.g.digs.toNat) - 1 := by unfold sg; cases g <;> simp only [if_true, Bool.false_eq_true, if_false, Int.natAbs_neg, Int.natAbs_natCast]
 rw [← l0e]
 refine h0v GG (show f.g.digs = (f.g.digs.toNat : Int) by omega) ?_ ?_ hgl (Int.le_refl _)
 · rw [habs]; omega
 · rw [habs]; exact .inr (.inl (by omega))
theorem u0i {f : Fm} (G : c0t f) (g : Bool) : ResF f (f.greatM g) := by
 obtain ⟨h1, h2⟩ := c1x G g
 exact ⟨by show 1 ≤ 2 ∧ 2 ≤ 5; omega, fun h => (by cases h), fun _ => ⟨h2, i0g _, (p0g h1).2, (p0g h1).1⟩, fun h => (by cases h), fun h => (by cases h), fun h => (by cases h), fun h => absurd rfl h⟩

theorem r0g {f : Fm} (G : c0t f) (g : Bool) : VRep f ⟨2, g, 2 ^ (wid f.g * f.g.digs.toNat) - 1, f.g.hi⟩ (f.greatM g) := by
 have GG := c0g G.g
 have h1 := GG.h1
 have h2 := GG.h2
 have hd2 := GG.d2
 have wp := b0n f.g
 have hm : wid f.g * f.g.digs.toNat ≤ 4 * 120 := Nat.mul_le_mul wp.2 (by omega)
 refine ⟨rfl, rfl, fun _ => rfl, fun h => absurd rfl h, ?_, by show _ ≤ f.g.hi; omega, by show f.g.hi ≤ _; omega⟩
 exact Nat.le_trans (a0l a0a (Nat.sub_le _ _)) (Nat.le_trans (g0g hm) (by omega))
theorem f0w {f : Fm} {k : Nat} {g : Bool} {x : Dv} (h : k ≠ 2) : VRep f ⟨k, g, 0, 0⟩ ⟨k, g, x⟩ :=
 ⟨rfl, rfl, fun e => absurd e h, fun _ => ⟨rfl, rfl⟩, by show (dig B32 0).length ≤ _; rw [a0c]; decide, by show (-20000 : Int) ≤ 0; decide, by show (0 : Int) ≤ 20000; decide⟩

def _root_.Go.Slip.Fm.placedV (f : Fm) (p : Pl) (way : Int) : Vl :=
 if p.over then (if f.fam = 2 then ⟨2, p.neg, 2 ^ (wid f.g * f.g.digs.toNat) - 1, f.g.hi⟩ else if f.fam = 3 then ⟨f.nothM.cls, false, 0, 0⟩ else if way ≤ 2 ∨ (way = 4 ∧ p.neg = false) ∨ (way = 5 ∧ p.neg = true) then ⟨3, p.neg, 0, 0⟩ else ⟨2, p.neg, 2 ^ (wid f.g * f.g.digs.toNat) - 1, f.g.hi⟩)
 else if p.under = true ∧ f.fam ≠ 1 ∧ p.pow < f.g.lo then ⟨1, false, 0, 0⟩
 else if p.d = 0 then ⟨1, p.neg && decide (f.fam = 1), 0, 0⟩
 else ⟨2, p.neg, p.d, p.pow⟩

theorem r0h {f : Fm} (_G : c0t f) : f.nothM.cls ≠ 2 := by unfold Fm.nothM; simp only; split <;> (try split) <;> omega

theorem n0m {f : Fm} (G : c0t f) {neg : Bool} {num den : Nat} {e way : Int} (hd : 0 < den) :
 ResF f (f.placedM (a0w neg num den e f.g way) way).1 ∧ VRep f (f.placedV (a0w neg num den e f.g way) way) (f.placedM (a0w neg num den e f.g way) way).1 := by
 have GG := c0g G.g
 have hin := fun h1 h2 => j1c (neg := neg) (num := num) (e := e) (way := way) hd GG h1 h2
 have hlen := z0x (neg := neg) (num := num) (e := e) (way := way) hd GG
 have hpw := fun h => j1a (neg := neg) (num := num) (e := e) (way := way) hd GG h
 have hpw2 : (a0w neg num den e f.g way).over = false → (a0w neg num den e f.g way).pow ≤ 17000 := by
  intro h
  have hh := GG.h2
  unfold a0w at *
  by_cases h0 : num = 0
  · rw [if_pos h0]; simp
  · rw [if_neg h0] at *
    generalize theK num den e (wid f.g) f.g.digs.toNat = K at *
    have h1 : powP neg num den e (wid f.g) f.g.digs.toNat way (powK f.g K) ≤ f.g.hi := by
     have h : decide (f.g.hi < powP neg num den e (wid f.g) f.g.digs.toNat way (powK f.g K)) = false := h
     have := of_decide_eq_false h
     omega
    show (if digP neg num den e (wid f.g) f.g.digs.toNat way (powK f.g K) = 0 then 0 else powP neg num den e (wid f.g) f.g.digs.toNat way (powK f.g K)) ≤ 17000
    split <;> omega
 unfold rv at hin
 have hgr := G.grad
 have l1 := GG.l1
 generalize a0w neg num den e f.g way = p at *
 unfold Fm.placedM Fm.placedV
 cases ho : p.over with
 | true =>
  simp only [if_true]
  by_cases h2 : f.fam = 2
  · rw [if_pos h2, if_pos h2]; exact ⟨u0i G _, r0g G _⟩
  · rw [if_neg h2, if_neg h2]
    by_cases h3 : f.fam = 3
    · rw [if_pos h3, if_pos h3]; exact ⟨j0u G, f0w (r0h G)⟩
    · have hf : f.fam = 1 := by have := G.fam; omega
      rw [if_neg h3, if_neg h3]
      split
      · exact ⟨j1d hf _, f0w (by decide)⟩
      · exact ⟨u0i G _, r0g G _⟩
 | false =>
  simp only [Bool.false_eq_true, if_false]
  by_cases hz : p.under = true ∧ f.fam ≠ 1 ∧ p.pow < f.g.lo
  · rw [if_pos hz, if_pos hz]
    exact ⟨p0h G _, f0w (by decide)⟩
  · rw [if_neg hz, if_neg hz]
    by_cases hd0 : p.d = 0
    · rw [if_pos hd0, if_pos hd0]
      exact ⟨p0h G _, f0w (by decide)⟩
    · rw [if_neg hd0, if_neg hd0]
      have hu : p.under = true → f.g.grad = false → f.g.lo ≤ p.pow ∧ p.d ≠ 0 := fun h1 h2 => by
       rw [hgr] at h2
       have := of_decide_eq_false h2
       refine ⟨?_, hd0⟩
       rcases Int.lt_or_le p.pow f.g.lo with h | h
       · exact absurd ⟨h1, this, h⟩ hz
       · exact h
      obtain ⟨b1, b2⟩ := p0g (g := p.neg) (e := wid f.g * p.pow) hd0
      have hlo : -17000 ≤ p.pow := by
       by_cases hok : okP p f.g = true
       · exact (hpw hok).1
       · unfold okP at hok
         rw [ho] at hok
         simp only [Bool.not_false, Bool.true_and, Bool.or_eq_true, Bool.not_eq_true', not_or, Bool.not_eq_false, Bool.not_eq_true] at hok
         have := (hu hok.1 hok.2).1
         omega
      have hhi := hpw2 ho
      refine ⟨⟨by show 1 ≤ 2 ∧ 2 ≤ 5; omega, fun h => (by cases h), fun _ => ⟨hin ho hu, i0g _, b2, b1⟩, fun h => (by cases h), fun h => (by cases h), fun h => (by cases h), fun h => absurd rfl h⟩, ?_⟩
      exact ⟨rfl, rfl, fun _ => rfl, fun h => absurd rfl h, by show (dig B32 p.d).length ≤ _; omega, by show _ ≤ p.pow; omega, by show p.pow ≤ _; omega⟩
end Go.Proofs.YtlcdfnaaenibgaaGreatDoor
namespace Go.Slip
open Go.RowKit

/-! ### Slices of structs -/
structure v0y (P : Program) (t e : TypeId) (s bytes : Nat) : Prop where
 ht : P.underlying t = some (.slice e)
 hi : ∃ i z, P.info? e = some i ∧ i.zero = some z ∧ i.size = s ∧ i.bytes = bytes ∧ z.cells.size = s
 pos : 0 < s
 le : bytes ≤ 100
theorem u0j {P : Program} {t e : TypeId} {s bytes : Nat} {z : Value} (h1 : P.underlying t = some (.slice e)) (h2 : (P.info? e).map (fun i => (i.zero, i.size, i.bytes)) = some (some z, s, bytes)) (h3 : Nat.ble bytes 100 = true) (h4 : Nat.beq z.cells.size s = true) (h5 : Nat.ble 1 s = true) : v0y P t e s bytes := by
 refine ⟨h1, ?_, Nat.le_of_ble_eq_true h5, Nat.le_of_ble_eq_true h3⟩
 cases h : P.info? e with
 | none => rw [h] at h2; cases h2
 | some i =>
  rw [h] at h2
  simp only [Option.map_some, Option.some.injEq, Prod.mk.injEq] at h2
  exact ⟨i, z, rfl, h2.1, h2.2.1, h2.2.2, Nat.eq_of_beq_eq_true h4⟩
def OwnS (w : World) (base : Nat) (e : TypeId) (s : Nat) (p : Option Addr) (c n : Nat) (vs : List Value) : Prop := w.ownsRow base e s (.slice p n c) n vs
theorem OwnS.nil (w : World) (base : Nat) (e : TypeId) (s : Nat) : OwnS w base e s none 0 0 [] := World.ownsRow_nil w base e s
section
variable {w w' : World} {base : Nat} {e : TypeId} {s : Nat} {p : Option Addr} {c n : Nat} {vs : List Value}
theorem OwnS.form (h : OwnS w base e s p c n vs) : (p = none ∧ c = 0 ∧ n = 0 ∧ vs = []) ∨ ∃ g, p = some ⟨g, 0, none⟩ ∧ base ≤ g ∧ g < w.heap.size ∧ n ≤ c ∧ c ≤ maxLen := by
 rcases h.2 with ⟨h1, h2⟩ | ⟨g, cap, cur, hv, hb, hg, hn, hc, _, _⟩
 · left
   simp only [Value.slice.injEq] at h1
   refine ⟨h1.1, h1.2.2, h2, List.eq_nil_of_length_eq_zero ?_⟩
   rw [h.1, h2, Nat.zero_mul]
 · right
   simp only [Value.slice.injEq] at hv
   obtain ⟨rfl, _, rfl⟩ := hv
   exact ⟨g, rfl, hb, (Array.getElem?_eq_some_iff.1 hg).1, hn, hc⟩
theorem OwnS.blk_lt (h : OwnS w base e s p c n vs) (hp : p.isSome = true) : base ≤ blk p ∧ blk p < w.heap.size := by
 rcases h.form with ⟨rfl, _, _, rfl⟩ | ⟨g, rfl, h1, h2, _⟩
 · simp at hp
 · exact ⟨h1, h2⟩
theorem OwnS.mono {b' : Nat} (h : OwnS w base e s p c n vs) (hb : b' ≤ base) : OwnS w b' e s p c n vs := by
 refine ⟨h.1, ?_⟩
 rcases h.2 with h1 | ⟨g, cap, cur, hv, hbg, r⟩
 · exact .inl h1
 · exact .inr ⟨g, cap, cur, hv, by omega, r⟩
theorem OwnS.same (h : OwnS w base e s p c n vs) (hb : p.isSome = true → w'.heap[blk p]? = w.heap[blk p]?) : OwnS w' base e s p c n vs := by
 refine ⟨h.1, ?_⟩
 rcases h.2 with h1 | ⟨g, cap, cur, hv, hbg, hg, r⟩
 · exact .inl h1
 · simp only [Value.slice.injEq] at hv
   obtain ⟨rfl, h2, rfl⟩ := hv
   exact .inr ⟨g, c, cur, rfl, hbg, by rw [← hg]; exact hb rfl, r⟩
theorem OwnS.cell (h : OwnS w base e s p c n vs) {j : Nat} {u : Value} (hu : vs[j]? = some u) : w.cell? (at_ p j) = some u := by
 rcases h.form with ⟨_, _, _, rfl⟩ | ⟨g, rfl, _⟩
 · simp at hu
 · have := World.ownsRow.cells h (g := g) rfl j u hu
   rw [← this]
   unfold at_ Addr.add
   split <;> simp_all
theorem OwnS.solid (h : OwnS w base e s p c n vs) : h0h p n := by
 rcases h.form with ⟨_, _, rfl, _⟩ | ⟨g, rfl, _⟩
 · exact fun h => by simp at h
 · exact fun _ => ⟨rfl, rfl⟩
theorem OwnS.far (h : OwnS w base e s p c n vs) {b : Nat} {t : TypeId} {us : Array Value} (hX : Bt w b t us) (hne : Nat.beq t e = false) (hp : p.isSome = true) : blk p ≠ b := by
 rcases h.2 with ⟨h1, h2⟩ | ⟨g, cap, cur, hv, hb, hg, _⟩
 · simp only [Value.slice.injEq] at h1
   rw [h1.1] at hp; cases hp
 · simp only [Value.slice.injEq] at hv
   intro hE
   rw [hv.1] at hE
   have hE2 : g = b := hE
   subst hE2
   have hE3 := hg.symm.trans hX
   simp only [Option.some.injEq, Obj.cells.injEq] at hE3
   rw [hE3.2.1] at hne
   simp at hne
theorem OwnS.apart (h : OwnS w base e s p c n vs) {b2 : Nat} {k : IntKind} {e2 : TypeId} {q : Option Addr} {c2 : Nat} {xs : List Nat} (o : Own w b2 k e2 q c2 xs) (hne : Nat.beq e2 e = false) (hp : p.isSome = true) : ¬ (q.isSome = true ∧ blk q = blk p) := by
 rintro ⟨hq, he⟩
 rcases h.2 with ⟨h1, h2⟩ | ⟨g, cap, cur, hv, hb, hg, _⟩
 · simp only [Value.slice.injEq] at h1
   rw [h1.1] at hp; cases hp
 · rcases o.2 with ⟨h1, h2⟩ | ⟨g', cap', cur', hv', hb', hg', _⟩
   · simp only [Value.slice.injEq] at h1
     rw [h1.1] at hq; cases hq
   · simp only [Value.slice.injEq] at hv hv'
     rw [hv.1, hv'.1] at he
     have hE : g' = g := he
     subst hE
     have := hg.symm.trans hg'
     simp only [Option.some.injEq, Obj.cells.injEq] at this
     rw [this.2.1] at hne
     simp at hne
end
def g0w (b : Nat) (e : TypeId) (s : Nat) (p : Option Addr) (c n : Nat) (vs : List Value) : PF :=
 ⟨fun w => OwnS w b e s p c n vs, fun a => p.isSome = true ∧ blk p = a, fun _ _ h hb _ => h.same fun hp => hb _ (h.blk_lt hp).2 ⟨hp, rfl⟩, fun _ _ h hf => hf.2 ▸ (h.blk_lt hf.1).2⟩

section
variable {P : Program} {w : World}
theorem c0e {t e : TypeId} {s bytes : Nat} (hty : v0y P t e s bytes) {p : Option Addr} {n c m : Nat} (hp : h0h p n) (hm : m < n) : (VO.ix t (.slice p n c) (.int .i64 (m : Int))).sem.run P w = .ok (.pointer (some (at_ p (m * s)))) w := by
 obtain ⟨i, z, hi, -, hs, -⟩ := hty.hi
 have hel : P.elem t = e := l0p hty.ht
 show (Instr.indexAt _ _ _).run P w = _
 rw [run_indexAt_solid w t p n c .i64 m (by rw [hel]; exact hty.ht) hp, if_pos (show (0 : Int) ≤ (m : Int) ∧ (m : Int) < (n : Int) by omega)]
 have hz : (sizeOf (P.elem t)).run P w = .ok s w := by
  rw [hel]
  simp [sizeOf, typeInfo, hi, hs]
 simp only [hz, Result.andThen_ok, Int.toNat_natCast]
theorem c0n {ty : TypeId} {base : Nat} {e : TypeId} {s : Nat} {p : Option Addr} {c n : Nat} {vs : List Value} (hr : OwnS w base e s p c n vs) {k : Nat} (hT : d0p P ty k) {m : Nat} (cs : List Value) (hc : (vs.drop m).take cs.length = cs) (hn : cs.length = k) : (VO.ld ty (.pointer (some (at_ p m)))).sem.run P w = .ok (.agg cs.toArray) w := by
 obtain ⟨⟨d, hu, hd⟩, hi⟩ := hT
 show (Instr.loadAt _ _).run P w = _
 have hE : at_ p m = ⟨(at_ p m).block, (at_ p m).off, none⟩ := rfl
 rw [hE]
 refine run_loadAt_mid w _ _ ty cs d (fun j v hv => ?_) hu hd (by rw [hi, hn])
 have hj := (List.getElem?_eq_some_iff.1 hv).1
 rw [← hc, List.getElem?_take, if_pos hj, List.getElem?_drop] at hv
 have := hr.cell hv
 rw [← this]
 unfold at_
 simp only [Nat.add_assoc]
end

section
variable {P : Program} {ops : Array Oper} {rest : List Oper} {o : Oper} {a : Act} {Q : Exit → Act → World → Prop} {w : World} {K : Act → World → Prop}
theorem g1n (s x : Operand) (t ty : TypeId) {pos : String} {d : Option Tmp} {af : Array Edge} {g : Option (Nat × Bool)} (ho : o = ⟨d, .call { callee := .builtin .append, args := #[s, x], argTypes := #[t, t] }, ty, pos, af, g⟩)
 {e : TypeId} {sz bytes : Nat} (hty : v0y P t e sz bytes) (base : Nat) (p : Option Addr) (n c : Nat) (vs : List Value) (hown : OwnS w base e sz p c n vs)
 (q : Addr) (m c2 : Nat) (ys : List Value) (hl : ys.length = m * sz) (hnews : ∀ j u, ys[j]? = some u → w.cell? (q.add j) = some u) (hone : ys.all (·.oneCell') = true) (hs : a.eval s = .slice p n c) (hx : a.eval x = .slice (some q) m c2)
 (hb : n + m ≤ 1000000000) (hbase : base ≤ w.heap.size) (hw : Region.wanted o (yielded ops a.tmps) = true)
 (h : ∀ p' c' w', OwnS w' base e sz p' c' (n + m) (vs ++ ys) → w.grownBy w' (p.map (·.block)) → (p'.isSome = true → (p.isSome = true ∧ blk p' = blk p) ∨ blk p' = w.heap.size) → K (a.put d (.slice p' (n + m) c')) w') : OpW P ops Q o K a w := by
 obtain ⟨i, z, hi, hz, hs1, hbt, hzs⟩ := hty.hi
 obtain ⟨v', w', hr, hO, hg, hnn, hat⟩ := run_append_own_at (P := P) w base t ty e i z sz bytes hty.ht hi hz hs1 hbt hzs hty.pos _ _ _ hown q m c2 ys hl hnews (fun u hu => List.all_eq_true.1 hone u hu) (by simp only [maxLen]; omega)
  (by have := Nat.mul_le_mul hb hty.le; omega) hbase
 have hv : ∃ p' c', v' = .slice p' (n + m) c' := by
  rcases hO.2 with ⟨h1, h2⟩ | ⟨g, cap, cur, h1, _⟩
  · exact ⟨none, 0, by rw [h1, h2]⟩
  · exact ⟨_, _, h1⟩
 obtain ⟨p', c', rfl⟩ := hv
 have hg' : w.grownBy w' (p.map (·.block)) := by cases p <;> exact hg
 refine ⟨?_⟩
 rw [if_pos hw]
 subst ho
 unfold Oper.wp execOp
 simp only [resolve, invoke, builtin, Sem.run_bind, Sem.run_pure, Result.andThen_ok, List.map_toArray, List.map_cons, List.map_nil, hs, hx, hr]
 refine h p' c' w' hO hg' fun hp' => ?_
 cases p' with
 | none => cases hp'
 | some a' =>
  rcases hat with h1 | h1
  · cases p with
    | none => cases h1
    | some b =>
     left
     exact ⟨rfl, Option.some.inj h1⟩
  · exact .inr (Option.some.inj h1)
end

/-! ### A block that was handed in -/
theorem Bt.far {w : World} {b b' : Nat} {t t' : TypeId} {vs us : Array Value} (h : Bt w b t vs) (hX : Bt w b' t' us) (hne : Nat.beq t t' = false) : ¬ (b = b') := by
 intro e
 subst e
 have := h.symm.trans hX
 simp only [Option.some.injEq, Obj.cells.injEq] at this
 rw [this.2.1] at hne
 simp at hne
def btF (b : Nat) (t : TypeId) (vs : Array Value) : PF :=
 ⟨fun w => Bt w b t vs, fun a => b = a, fun _ _ h hb _ => (hb b h.lt rfl).trans h, fun _ _ h hf => hf ▸ h.lt⟩
theorem e1h {P : Program} {w : World} {b : Nat} {t : TypeId} {vs : Array Value} (h : Bt w b t vs) {ty k : Nat} (hT : d0p P ty k) {m : Nat} (cs : List Value) (hc : (vs.toList.drop m).take cs.length = cs) (hn : cs.length = k) : (VO.ld ty (.pointer (some (at_ (some ⟨b, 0, none⟩) m)))).sem.run P w = .ok (.agg cs.toArray) w := by
 have := y0c h hT m cs hc hn
 show (Instr.loadAt _ _).run P w = _
 unfold at_
 simpa using this
theorem t0a {α : Type} {s : Nat} {f : α → List Value} (hf : ∀ x, (f x).length = s) : ∀ {xs : List α} {i : Nat} {x : α}, xs[i]? = some x → ((xs.flatMap f).drop (i * s)).take (f x).length = f x
 | [], _, _, h => by simp at h
 | a :: l, 0, x, h => by
  simp only [List.getElem?_cons_zero, Option.some.injEq] at h
  subst h
  rw [Nat.zero_mul, List.drop_zero, List.flatMap_cons, List.take_left']
  rfl
 | a :: l, i + 1, x, h => by
  rw [List.getElem?_cons_succ] at h
  have := t0a hf h
  rw [List.flatMap_cons, Nat.add_mul, Nat.one_mul, Nat.add_comm, ← List.drop_drop, List.drop_left' (hf a)]
  exact this
theorem Kp.toBelow {u : Nat} {w w' : World} {t : TypeId} {vs : Array Value} (h : Kp [u] w w') (U : Bt w u t vs) (U' : Bt w' u t vs) : Below w.heap.size w w' :=
 ⟨h.os, h.tape, h.output, h.size, fun k hk => by
   by_cases e : k = u
   · subst e; exact Eq.trans U' (Eq.symm U)
   · exact h.block k hk (by simp [e])⟩
/-! ### Steps -/
def a1a : List Box → Bool
 | [] => true
 | b :: l => match b.ro with | true => false | false => a1a l
theorem r0i : ∀ {l : List Box}, a1a l = true → ∀ k, k < l.length → (lk bx0 l k).ro = false
 | [], _, _, h => by simp at h
 | b :: l, h, k, hk => by
  unfold a1a at h
  split at h
  · cases h
  · rename_i hb
    cases k with
    | zero => exact hb
    | succ k => exact r0i h k (by simpa using hk)
section
variable {P : Program} {Q : Exit → Act → World → Prop} {E : List Nat} {w0 : World} {A : List Nat} {fs : List PF} {W V : World} {c : Cfg}

theorem Inv.grown {W' : World} {bx : List Box} {b : Nat} {e : TypeId} {s : Nat} {p p' : Option Addr} {cc c' n n' : Nat} {vs vs' : List Value} (I : Inv E w0 A bx (g0w b e s p cc n vs :: fs) W) (hb : w0.heap.size ≤ b) (hrw : a1a bx = true)
 (hO : OwnS W' b e s p' c' n' vs') (hg : W.grownBy W' (p.map (·.block))) (hat : p'.isSome = true → (p.isSome = true ∧ blk p' = blk p) ∨ blk p' = W.heap.size) (hfar : p.isSome = true → PF.far (blk p) fs) :
 Inv E w0 A bx (g0w b e s p' c' n' vs' :: fs) W' := by
 have hrow := I.fa.1
 have hne : ∀ k, p.map (·.block) = some k → p.isSome = true ∧ blk p = k := fun k h => by
  cases p with
  | none => cases h
  | some a => exact ⟨rfl, Option.some.inj h⟩
 have keep : ∀ k, k < W.heap.size → (p.isSome = true → blk p ≠ k) → W'.heap[k]? = W.heap[k]? := fun k hk h => hg.block k hk fun e => by
  obtain ⟨h1, h2⟩ := hne k e.symm
  exact h h1 h2
 refine ⟨⟨hg.os.trans I.bel.os, hg.tape.trans I.bel.tape, hg.output.trans I.bel.output, Nat.le_trans I.bel.size hg.size, fun k hk hkE => ?_⟩, I.ge, I.nd, I.len, I.pre, fun k hk => ?_, ⟨hO, ?_⟩, fun a ha => ⟨fun hf => ?_, (I.far a ha).2⟩⟩
 · rw [keep k (Nat.lt_of_lt_of_le hk I.bel.size) fun hp => by have := (hrow.blk_lt hp).1; omega]
   exact I.bel.block k hk hkE
 · have hF : Fa A bx (lk 0 A k) := ⟨k, hk, r0i hrw k hk, rfl⟩
   have h1 := I.bt k hk
   unfold Bt at h1 ⊢
   rw [keep _ (I.lt _ hF) fun hp e => (I.far _ hF).1 ⟨hp, e⟩]
   exact h1
 · refine PF.all_keep hg.size I.fa.2 fun k hk ha => keep k hk fun hp => ha _ (hfar hp)
 · rcases hat hf.1 with ⟨hp, h⟩ | h
   · exact (I.far a ha).1 ⟨hp, h.symm.trans hf.2⟩
   · have := I.lt a ha
     have := hf.2
     omega

def apOf (c : Cfg) (A : List Nat) : Option (TypeId × Value × Value) :=
 match hdOp c with
 | some ⟨_, .call ⟨.builtin .append, ⟨[s, x]⟩, ⟨[t, t']⟩⟩, _, _, _, _⟩ => match Nat.beq t t' with
  | true => some (t, evr A c.fr s, evr A c.fr x)
  | false => none
 | _ => none
theorem zap {e : TypeId} {sz : Nat} {p : Option Addr} {cc n : Nat} {vs : List Value} (I : Inv E w0 A c.bx (g0w w0.heap.size e sz p cc n vs :: fs) W) {t : TypeId} {bytes : Nat} (hty : v0y P t e sz bytes) (k m : Nat) (news : List Nat → List Value)
 (hbox : ∀ A W, Inv E w0 A (zr P none c).bx (g0w w0.heap.size e sz p cc n vs :: fs) W → Bt W (lk 0 A k) e (news A).toArray) (hcap : n + m ≤ 1000000000)
 (hfar : ∀ A W, Inv E w0 A (zr P none c).bx (g0w w0.heap.size e sz p cc n vs :: fs) W → p.isSome = true → PF.far (blk p) fs)
 (h : ∀ A W p' c', (p'.isSome = true → PF.far (blk p') fs) → Inv E w0 A (putc (zr P none c) (.v (.slice p' (n + m) c'))).bx (g0w w0.heap.size e sz p' c' (n + m) (vs ++ news A) :: fs) W → G P Q A (putc (zr P none c) (.v (.slice p' (n + m) c'))) W)
 (hl : ∀ A, Nat.beq (news A).length (m * sz) = true := by intro _; kernel_rfl) (hone : ∀ A, (news A).all (·.oneCell') = true := by intro _; kernel_rfl)
 (ho : ∀ A, apOf (zr P none c) A = some (t, .slice p n cc, .slice (some ⟨lk 0 A k, 0, none⟩) m m) := by intro _; kernel_rfl)
 (hr : ∀ A w, (zms P none 5000 c A w).map (·.1) = (zms P none 5000 c A w).map (·.2) := by intro _ _; kernel_rfl)
 (hrw : a1a (zr P none c).bx = true := by kernel_rfl)
 (hm : ok1 (zr P none c).rg (zr P none c).bx = ok2 (zr P none c).rg := by kernel_rfl) : G P Q A c W :=
 b0w I hr fun A W I => by
  have ho2 := ho A
  have h2 := h A
  have hbox2 := hbox A W I
  have hfar2 := hfar A W I
  have hl2 := hl A
  have hone2 := hone A
  clear hr ho h hbox hfar hl hone
  generalize zr P none c = c at *
  unfold apOf hdOp at ho2
  split at ho2
  · rename_i hn'
    split at ho2
    · rename_i hbeq
      have htt := Nat.eq_of_beq_eq_true hbeq
      subst htt
      simp only [Option.some.injEq, Prod.mk.injEq] at ho2
      obtain ⟨rfl, ho1, ho2⟩ := ho2
      split at hn'
      · rename_i o' hn
        split at hn'
        · rename_i hw
          simp only [Option.some.injEq] at hn'
          subst hn'
          refine G_op (E := E) (w0 := w0) (fs := []) hn fun K hK => g1n _ _ _ _ rfl hty w0.heap.size p n cc vs I.fa.1 ⟨lk 0 A k, 0, none⟩ m m (news A) (Nat.eq_of_beq_eq_true hl2) (fun j u hu => ?_) hone2 (by rw [c0i]; exact ho1) (by rw [c0i]; exact ho2) hcap I.bel.size (by rw [g0l]; exact hw) fun p' c' W' hO hg hat => ?_
          · have := hbox2.bx.cell j
            rw [show (⟨lk 0 A k, 0, none⟩ : Addr).add j = ⟨lk 0 A k, j, none⟩ by unfold Addr.add; split <;> simp_all, this]
            simpa using hu
          · have I2 := I.grown (Nat.le_refl _) hrw hO hg hat hfar2
            have hq : p'.isSome = true → PF.far (blk p') fs := fun hp => by
             rcases hat hp with ⟨h1, h3⟩ | h1
             · rw [h3]; exact hfar2 h1
             · rw [h1]; exact PF.far_new I.fa.2
            have h := h2 W' p' c' hq I2
            unfold putc at h
            rw [hn] at h
            have := hK A W' _ c.bx (List.prefix_refl _) (I2.pick []) hm h
            rw [show Value.slice p' (n + m) c' = (SV.v (.slice p' (n + m) c')).r A from rfl, d0r]
            exact this
        · cases hn'
      · cases hn'
    · cases ho2
  · cases ho2

theorem Inv.newb {bx : List Box} (I : Inv E w0 A bx fs V) (hb : Below V.heap.size V W) {b : Nat} {t : TypeId} {cs : List SV} (hge : V.heap.size ≤ b) (hB : Bt W b t (cs.map (SV.r A)).toArray) (h1 : wfL bx.length cs = true) (h2 : wfB bx.length bx = true) :
 Inv E w0 (A ++ [b]) (bx ++ [⟨t, cs, false⟩]) fs W := by
 have I' := I.past hb
 have hl : ∀ k, k < bx.length → lk 0 (A ++ [b]) k = lk 0 A k ∧ lk bx0 (bx ++ [⟨t, cs, false⟩]) k = lk bx0 bx k := fun k h => ⟨d0a 0 (by rw [I.len]; exact h), d0a bx0 h⟩
 have hn : lk 0 (A ++ [b]) bx.length = b ∧ lk bx0 (bx ++ [⟨t, cs, false⟩]) bx.length = ⟨t, cs, false⟩ := ⟨by rw [← I.len, d0g], d0g _⟩
 have hF : ∀ a, Fa (A ++ [b]) (bx ++ [⟨t, cs, false⟩]) a → Fa A bx a ∨ a = b := fun a ⟨k, hk, hr, e⟩ => by
  rw [List.length_append, List.length_singleton] at hk
  by_cases h : k < bx.length
  · rw [(hl k h).2] at hr
    rw [(hl k h).1] at e
    exact .inl ⟨k, h, hr, e⟩
  · obtain rfl : k = bx.length := by omega
    exact .inr (e.trans hn.1)
 refine ⟨I'.bel, fun a ha => ?_, fun i j hi hj hr hne => ?_, by simp [I.len], I.pre.trans (List.prefix_append _ _), fun k hk => ?_, I'.fa, fun a ha => ?_⟩
 · rcases hF a ha with h | rfl
   · exact I.ge a h
   · exact .inl (Nat.le_trans I.bel.size hge)
 · rw [List.length_append, List.length_singleton] at hi hj
   by_cases h : i < bx.length
   · rw [(hl i h).2] at hr
     by_cases h' : j < bx.length
     · rw [(hl i h).1, (hl j h').1]
       exact I.nd i j h h' hr hne
     · obtain rfl : j = bx.length := by omega
       rw [(hl i h).1, hn.1]
       have := (I.bt i h).lt
       omega
   · obtain rfl : i = bx.length := by omega
     have h' : j < bx.length := by omega
     rw [(hl j h').1, hn.1]
     have := (I.bt j h').lt
     omega
 · rw [List.length_append, List.length_singleton] at hk
   by_cases h : k < bx.length
   · rw [(hl k h).1, (hl k h).2]
     have := I'.bt k h
     unfold Box.row at this ⊢
     rw [m0p _ I.len (l0n h2 k)]
     exact this
   · obtain rfl : k = bx.length := by omega
     rw [hn.1, hn.2]
     unfold Box.row
     simp only
     rw [m0p _ I.len h1]
     exact hB
 · rcases hF a ha with h | rfl
   · exact I'.far a h
   · have : ∀ {l : List PF}, PF.all V l → PF.far a l := fun {l} hl => by
      induction l with
      | nil => exact True.intro
      | cons f l ih => exact ⟨fun hf => by have := f.lt V _ hl.1 hf; omega, ih hl.2⟩
     exact this I.fa

theorem j1e {A' : List Nat} {c' : Cfg} (hA : A <+: A') (he : act A c.fr = act A' c'.fr) (h1 : c'.rg = c.rg) (h2 : c'.ks = c.ks) (h : G P Q A' c' W) : G P Q A c W := by
 refine ⟨?_⟩
 have h := h.out
 unfold d1v at *
 obtain ⟨fr, bx, rg, ks⟩ := c
 obtain ⟨fr', bx', rg', ks'⟩ := c'
 simp only at *
 subst h1 h2
 rw [he]
 cases rg' with
 | off => exact h
 | pl => exact h
 | dr ops A0 m fuel listed => exact fun pre => h (pre.on hA)
 | one ops A0 m fuel listed i => exact fun pre => h (pre.on hA)
 | ret => exact h

theorem v0z {bxv : List Box} (I : Inv E w0 A bxv fs V) (hb : Below V.heap.size V W) (k b : Nat) (t : TypeId) (cs : List Value) (hge : V.heap.size ≤ b) (hB : Bt W b t cs.toArray)
 (h : ∀ A', lk 0 A' k = b → Inv E w0 A' (c.bx ++ [⟨t, cs.map .v, false⟩]) fs W → G P Q A' ⟨c.fr, c.bx ++ [⟨t, cs.map .v, false⟩], c.rg, c.ks⟩ W)
 (hbv : bxv = c.bx := by kernel_rfl) (hk : c.bx.length = k := by kernel_rfl) (h1 : wfL c.bx.length (cs.map SV.v) = true := by kernel_rfl) (h2 : wfB c.bx.length c.bx = true := by kernel_rfl) (h3 : wfL c.bx.length c.fr = true := by kernel_rfl) : G P Q A c W := by
 subst hbv
 have hcs : ∀ A, (cs.map SV.v).map (SV.r A) = cs := fun A => by
  rw [List.map_map]
  exact List.map_id _
 have I2 := I.newb hb (cs := cs.map SV.v) hge (by rw [hcs]; exact hB) h1 h2
 refine j1e (A' := A ++ [b]) (c' := ⟨c.fr, c.bx ++ [⟨t, cs.map .v, false⟩], c.rg, c.ks⟩) (List.prefix_append _ _) ?_ rfl rfl (h _ ?_ I2)
 · unfold act
   simp only
   rw [m0p _ I.len h3]
 · rw [← hk, ← I.len, d0g]
theorem w0a (I : Inv E w0 A c.bx fs W) (d k b : Nat) (hk : lk 0 A k = b) (h : ∀ A W, Inv E w0 A (putc (zr P (some d) c) (.p k 0)).bx fs W → G P Q A (putc (zr P (some d) c) (.p k 0)) W)
 (hkl : Nat.ble (k + 1) c.bx.length = true := by kernel_rfl)
 (hv : s0i P (zr P (some d) c) = some (.val (.v (.pointer (some ⟨b, 0, none⟩)))) := by kernel_rfl)
 (hc : ∀ A w, (e0s P (zr P (some d) c) A w).map (·.1) = (e0s P (zr P (some d) c) A w).map (·.2) := by intro _ _; kernel_rfl)
 (hr : ∀ A w, (zms P (some d) 5000 c A w).map (·.1) = (zms P (some d) 5000 c A w).map (·.2) := by intro _ _; kernel_rfl)
 (hm : ok1 (zr P (some d) c).rg (zr P (some d) c).bx = ok2 (zr P (some d) c).rg := by kernel_rfl) : G P Q A c W := by
 refine j0o 5000 I (fun A w => e0x (hr A w)) fun A' W' hA I' => ?_
 rw [← h1x] at I' ⊢
 refine h1z I' _ (.p k 0) ?_ (h A' W') hv (fun A w => e0x (hc A w)) hm
 show Value.pointer (some ⟨b, 0, none⟩) = .pointer (some ⟨lk 0 A' k, 0, none⟩)
 rw [t0t hA (by rw [I.len]; exact g0s hkl), hk]
theorem h0z {α : Type} (d : α) {l : List α} {n k : Nat} (h : k < n) : lk d (l.take n) k = lk d l k := by
 rw [e0b, e0b, List.getElem?_take, if_pos h]
theorem Inv.dropB {bx : List Box} (I : Inv E w0 A bx fs W) (n : Nat) (hE : E.length ≤ n) (hw : wfB n (bx.take n) = true) (hn : n ≤ bx.length) : Inv E w0 (A.take n) (bx.take n) fs W := by
 have hl : (bx.take n).length = n := by rw [List.length_take]; omega
 have hla : (A.take n).length = n := by rw [List.length_take, I.len]; omega
 have hF : ∀ a, Fa (A.take n) (bx.take n) a → Fa A bx a := fun a ⟨k, hk, hr, e⟩ => by
  rw [hl] at hk
  rw [h0z _ hk] at hr e
  exact ⟨k, by omega, hr, e⟩
 refine ⟨I.bel, fun a ha => I.ge a (hF a ha), fun i j hi hj hr hne => ?_, by rw [hl, hla], ?_, fun k hk => ?_, I.fa, fun a ha => I.far a (hF a ha)⟩
 · rw [hl] at hi hj
   rw [h0z _ hi] at hr
   rw [h0z _ hi, h0z _ hj]
   exact I.nd i j (by omega) (by omega) hr hne
 · exact List.prefix_take_iff.2 ⟨I.pre, hE⟩
 · rw [hl] at hk
   have h1 := I.bt k (by omega)
   rw [h0z _ hk, h0z _ hk]
   unfold Box.row at h1 ⊢
   have hw2 := l0n hw k
   rw [h0z _ hk] at hw2
   have h2 := m0p (A := A.take n) (A.drop n) hla hw2
   rw [List.take_append_drop] at h2
   rw [← h2]
   exact h1
theorem n0n (n : Nat) (I : Inv E w0 A c.bx fs W) (J : Act → World → Prop) {fr : (Nat → Value) → List SV} {bx : (Nat → Value) → List Box} (h : ∀ A W U, Inv E w0 A (bx U) fs W → J (act A (fr U)) W)
 (hr : ∀ A w, (zms P none 5000 c A w).map (·.1) = (zms P none 5000 c A w).map (·.2) := by intro _ _; kernel_rfl)
 (hf : ∀ A, (zr P none c).fr.map (SV.r A) = (fr (uOf (zr P none c) A)).map (SV.r A) := by intro _; kernel_rfl)
 (hb : ∀ A, (zr P none c).bx.take n = bx (uOf (zr P none c) A) := by intro _; kernel_rfl)
 (hw : ∀ U, wfL n (fr U) = true := by intro _; kernel_rfl) (hw2 : wfB n ((zr P none c).bx.take n) = true := by kernel_rfl) (hn : Nat.ble n (zr P none c).bx.length = true := by kernel_rfl) (hE : Nat.ble E.length n = true := by kernel_rfl)
 (hs : e1c (zr P none c) = some J := by kernel_rfl) : G P Q A c W :=
 b0w I hr fun A W I => by
  have I2 := I.dropB n (Nat.le_of_ble_eq_true hE) hw2 (Nat.le_of_ble_eq_true hn)
  rw [hb A] at I2
  have h := h (A.take n) W (uOf (zr P none c) A) I2
  have hf := hf A
  have hla : (A.take n).length = n := by rw [List.length_take, I.len]; exact Nat.min_eq_left (Nat.le_of_ble_eq_true hn)
  have h3 := m0p (A := A.take n) (A.drop n) hla (hw (uOf (zr P none c) A))
  rw [List.take_append_drop] at h3
  unfold act at h
  rw [← h3, ← hf] at h
  clear hb hf h3 hw hw2 hn I2
  generalize zr P none c = c at *
  refine ⟨?_⟩
  obtain ⟨cf, cb, rg, ks⟩ := c
  cases rg with
  | pl => cases hs
  | dr => cases hs
  | one => cases hs
  | ret => cases hs
  | off =>
   cases ks with
   | nil => cases hs
   | cons k ks =>
    cases k with
    | block => cases hs
    | code => cases hs
    | stop J' =>
     obtain rfl : J' = J := Option.some.inj hs
     exact h
theorem zgfe (I : Inv E w0 A c.bx fs W) (k : Nat) (t : TypeId) {f : FuncId} {args : List Nat → World → Array Value} {post : List Nat → World → Ending → World → Prop} (hf : ∀ args w, (callFunc f args).run P w = .ok (.enter f args) w)
 (hc : ∀ A W, Inv E w0 A (zr P none c).bx fs W → Calls P f (args A W) W (post A W))
 (h : ∀ A V, Inv E w0 A (zr P none c).bx fs V → w0.heap.size ≤ V.heap.size → ∀ K : Value → World → Prop, (∀ v cs W, Kp [lk 0 A k] V W → Bt W (lk 0 A k) t (cs.map (SV.r A)).toArray → (Inv E w0 A (s0k (zr P none c) k cs (.v v)).bx fs W → G P Q A (s0k (zr P none c) k cs (.v v)) W) → K v W) → ∀ e W, post A V e W → ∃ v, e = .returned v ∧ K v W)
 (ho : ∀ A w, t0u (zr P none c) A = some (.func (.func f) #[] #[], args A w) := by intro _ _; kernel_rfl)
 (hr : ∀ A w, (zms P none 5000 c A w).map (·.1) = (zms P none 5000 c A w).map (·.2) := by intro _ _; kernel_rfl)
 (hm : ∀ cs, ok1 (zr P none c).rg (setL (zr P none c).bx k ⟨(lk bx0 (zr P none c).bx k).t, cs, false⟩) = ok2 (zr P none c).rg := by intro _; kernel_rfl) (hk : wrOk (zr P none c) k = true := by kernel_rfl)
 (ht : (lk bx0 (zr P none c).bx k).t = t := by kernel_rfl) : G P Q A c W :=
 b0w I hr fun A V I => d1y I k (hc A V I) (by rw [ht]; exact h A V I I.bel.size) (t0v (ho A V) (hf _)) hm hk
theorem Inv.owns {bx : List Box} (I : Inv E w0 A bx fs W) {b : Nat} {e : TypeId} {s : Nat} {p : Option Addr} {cc n : Nat} {vs : List Value} (o : OwnS W b e s p cc n vs) (hb : w0.heap.size ≤ b := by first | exact Nat.le_refl _ | assumption | omega) (hne : q0l e bx = true := by kernel_rfl) :
 Inv E w0 A bx (g0w w0.heap.size e s p cc n vs :: fs) W :=
 I.add (g0w w0.heap.size e s p cc n vs) (o.mono hb) fun a ha hf => by
  obtain ⟨j, hj, _, rfl⟩ := ha
  exact o.far (I.bt j hj) (f0v hne j hj) hf.1 hf.2
end
end Go.Slip
namespace Go.Proofs.YtlcdfnaaenibgaaGreatDoor
open Go.RowKit Go.Slip
theorem TabW.far {w : World} {b : Nat} {t : TypeId} {vs : Array Value} (h : TabW w) (hX : Bt w b t vs) (hne : (match vs[0]? with | some (.int .u8 _) => false | _ => true) = true) : ¬ (0 = b) := by
 intro e
 subst e
 have h1 := h.1 0 (by omega)
 rw [hX.bx.cell 0] at h1
 rw [h1] at hne
 cases hne

def famB (f : Fm) : Int := if f.fam = 1 then 65 else if f.fam = 2 then 66 else 67

theorem b0o (f : Fm) (n way a b c : Int) (u : Nat) (w : World) (U : Bt w u 139 #[.int .i64 n, .int .i64 way, .int .i64 f.g.rad, .int .i64 f.g.digs, .int .i64 f.g.lo, .int .i64 f.g.hi, .bool f.g.grad, .int .u8 (famB f), .int .i64 a]) (hc : bits .or .i64 a b = c) :
 Calls Tryz.prog 113 #[.pointer (some ⟨u, 0, none⟩), .int .i64 b] w fun e w' => e = .returned (.tuple #[]) ∧ Kp [u] w w' ∧ Bt w' u 139 #[.int .i64 n, .int .i64 way, .int .i64 f.g.rad, .int .i64 f.g.digs, .int .i64 f.g.lo, .int .i64 f.g.hi, .bool f.g.grad, .int .u8 (famB f), .int .i64 c] := by
 have I := Inv.startW w u 139 [.v (.int .i64 n), .v (.int .i64 way), .v (.int .i64 f.g.rad), .v (.int .i64 f.g.digs), .v (.int .i64 f.g.lo), .v (.int .i64 f.g.hi), .v (.bool f.g.grad), .v (.int .u8 (famB f)), .v (.int .i64 a)] [] U True.intro True.intro
 refine a0b [.p 0 0, .v (.int .i64 b)] I Tryz.func113 ?_
 refine zbin I 9 _ (fun _ _ _ _ _ => i1h .i64 (a) (b) (c) (hc)) fun Al W I => ?_
 exact zret I fun Al W I => ⟨rfl, I.bel, I.boxE 139 _⟩

theorem a1b (f : Fm) (n way a : Int) (u : Nat) (w : World) (U : Bt w u 139 #[.int .i64 n, .int .i64 way, .int .i64 f.g.rad, .int .i64 f.g.digs, .int .i64 f.g.lo, .int .i64 f.g.hi, .bool f.g.grad, .int .u8 (famB f), .int .i64 a]) :
 Calls Tryz.prog 118 #[.pointer (some ⟨u, 0, none⟩)] w fun e w' => e = .returned (.int .i64 ((wid f.g : Nat) : Int)) ∧ Below w.heap.size w w' := by
 by_cases h : f.g.rad = 16
 · have hw : wid f.g = 4 := by unfold wid; rw [if_pos h]
   rw [hw]
   have I := Inv.startR w [u] [⟨139, [.v (.int .i64 n), .v (.int .i64 way), .v (.int .i64 f.g.rad), .v (.int .i64 f.g.digs), .v (.int .i64 f.g.lo), .v (.int .i64 f.g.hi), .v (.bool f.g.grad), .v (.int .u8 (famB f)), .v (.int .i64 a)], true⟩] [] ⟨U, True.intro⟩ True.intro
   refine a0b [.p 0 0] I Tryz.func118 ?_
   refine zb I 8 (f.g.rad == 16) (true) (beq_iff_eq.2 h) fun Al W I => ?_
   exact zret I fun Al W I => ⟨rfl, I.below⟩
 · have hw : wid f.g = 1 := by unfold wid; rw [if_neg h]
   rw [hw]
   have I := Inv.startR w [u] [⟨139, [.v (.int .i64 n), .v (.int .i64 way), .v (.int .i64 f.g.rad), .v (.int .i64 f.g.digs), .v (.int .i64 f.g.lo), .v (.int .i64 f.g.hi), .v (.bool f.g.grad), .v (.int .u8 (famB f)), .v (.int .i64 a)], true⟩] [] ⟨U, True.intro⟩ True.intro
   refine a0b [.p 0 0] I Tryz.func118 ?_
   refine zb I 8 (f.g.rad == 16) (false) (beq_eq_false_iff_ne.2 h) fun Al W I => ?_
   exact zret I fun Al W I => ⟨rfl, I.below⟩

theorem k0f (f : Fm) (n way a : Int) (g : Bool) (u : Nat) (w : World) (U : Bt w u 139 #[.int .i64 n, .int .i64 way, .int .i64 f.g.rad, .int .i64 f.g.digs, .int .i64 f.g.lo, .int .i64 f.g.hi, .bool f.g.grad, .int .u8 (famB f), .int .i64 a]) :
 Calls Tryz.prog 61 #[.pointer (some ⟨u, 0, none⟩), .bool g] w fun e w' => e = .returned (.agg #[.int .i64 1, .bool (g && decide (f.fam = 1)), .slice none 0 0, .int .i64 0]) ∧ Below w.heap.size w w' := by
 have hB : (famB f == 65) = decide (f.fam = 1) := by
  unfold famB
  by_cases h1 : f.fam = 1
  · simp [h1]
  · by_cases h2 : f.fam = 2 <;> simp [h1, h2]
 cases g
 · have I := Inv.startR w [u] [⟨139, [.v (.int .i64 n), .v (.int .i64 way), .v (.int .i64 f.g.rad), .v (.int .i64 f.g.digs), .v (.int .i64 f.g.lo), .v (.int .i64 f.g.hi), .v (.bool f.g.grad), .v (.int .u8 (famB f)), .v (.int .i64 a)], true⟩] [] ⟨U, True.intro⟩ True.intro
   refine a0b [.p 0 0, .v (.bool false)] I Tryz.func61 ?_
   exact zret I fun Al W I => ⟨rfl, I.below⟩
 · generalize decide (f.fam = 1) = q at *
   have I := Inv.startR w [u] [⟨139, [.v (.int .i64 n), .v (.int .i64 way), .v (.int .i64 f.g.rad), .v (.int .i64 f.g.digs), .v (.int .i64 f.g.lo), .v (.int .i64 f.g.hi), .v (.bool f.g.grad), .v (.int .u8 (famB f)), .v (.int .i64 a)], true⟩] [] ⟨U, True.intro⟩ True.intro
   refine a0b [.p 0 0, .v (.bool true)] I Tryz.func61 ?_
   refine zb I 11 ((famB f) == 65) (q) (hB) fun Al W I => ?_
   exact zret I fun Al W I => ⟨rfl, I.below⟩

theorem c1y : Tryz.prog.underlying 192 = some (.map 5 3) := by kernel_rfl
def m0i : Array MapEntry := #[⟨.int .u8 65, .int .i64 4, 0⟩, ⟨.int .u8 66, .int .i64 1, 1⟩, ⟨.int .u8 67, .int .i64 5, 2⟩]
theorem m0j (f : Fm) (n way a : Int) (u : Nat) (w : World) (U : Bt w u 139 #[.int .i64 n, .int .i64 way, .int .i64 f.g.rad, .int .i64 f.g.digs, .int .i64 f.g.lo, .int .i64 f.g.hi, .bool f.g.grad, .int .u8 (famB f), .int .i64 a]) :
 Calls Tryz.prog 114 #[.pointer (some ⟨u, 0, none⟩)] w fun e w' => e = .returned (.agg #[.int .i64 (f.nothM.cls : Int), .bool false, .slice none 0 0, .int .i64 0]) ∧ Below w.heap.size w w' := by
 have hmm := @run_makeMap Tryz.prog
 go_enter Tryz.func114, Tryz.ntmps114
 have hs : (w.alloc (Obj.cells #[Value.int IntKind.i64 0, Value.bool false, Value.slice none 0 0, Value.int IntKind.i64 0] 70)).heap.size = w.heap.size + 1 := by show (w.heap.push _).size = _; exact Array.size_push ..
 have h1 := d0z (w := w.alloc (Obj.cells #[Value.int IntKind.i64 0, Value.bool false, Value.slice none 0 0, Value.int IntKind.i64 0] 70)) c1y Tryz.underlying5 #[] 0 65 (.int .i64 4) rfl
 have h2 := d0z (w := w.alloc (Obj.cells #[Value.int IntKind.i64 0, Value.bool false, Value.slice none 0 0, Value.int IntKind.i64 0] 70)) c1y Tryz.underlying5 #[⟨.int .u8 65, .int .i64 4, 0⟩] 1 66 (.int .i64 1) rfl
 have h3 := d0z (w := w.alloc (Obj.cells #[Value.int IntKind.i64 0, Value.bool false, Value.slice none 0 0, Value.int IntKind.i64 0] 70)) c1y Tryz.underlying5 #[⟨.int .u8 65, .int .i64 4, 0⟩, ⟨.int .u8 66, .int .i64 1, 1⟩] 2 67 (.int .i64 5) rfl
 rw [hs] at h1 h2 h3
 have U3 : ∀ es c, Bt ((w.alloc (Obj.cells #[Value.int IntKind.i64 0, Value.bool false, Value.slice none 0 0, Value.int IntKind.i64 0] 70)).alloc (Obj.map es c)) u 139 #[.int .i64 n, .int .i64 way, .int .i64 f.g.rad, .int .i64 f.g.digs, .int .i64 f.g.lo, .int .i64 f.g.hi, .bool f.g.grad, .int .u8 (famB f), .int .i64 a] := fun es c => U.past (((Below.refl _ _).alloc (Nat.le_refl _) _).alloc (by rw [hs]; omega) _)
 have hL := (U3 m0i 3).bx.c 7 (v := .int .u8 (famB f)) rfl
 have hM : ((w.alloc (Obj.cells #[Value.int IntKind.i64 0, Value.bool false, Value.slice none 0 0, Value.int IntKind.i64 0] 70)).alloc (Obj.map m0i 3)).heap[w.heap.size + 1]? = some (.map m0i 3) := by
  rw [← hs]; show ((World.alloc _ _).heap.push _)[_]? = _; exact Array.getElem?_push_size
 have hF : ∃ i, Instr.findNow (.int .u8) (.int .u8 (famB f)) m0i.toList 0 = some (some (i, .int .i64 (f.nothM.cls : Int))) := by
  unfold famB Fm.nothM
  by_cases h1 : f.fam = 1
  · rw [if_pos h1, if_pos h1]; exact ⟨0, rfl⟩
  · rw [if_neg h1, if_neg h1]
    by_cases h2 : f.fam = 2
    · rw [if_pos h2, if_pos h2]; exact ⟨1, rfl⟩
    · rw [if_neg h2, if_neg h2]; exact ⟨2, rfl⟩
 obtain ⟨i, hF⟩ := hF
 have hK := h0n c1y Tryz.underlying5 hM (famB f) hF
 simp only [m0i] at hL hK
 clear hM hF U3
 go_wp2_with fail
 have hC : Bt ((w.alloc (Obj.cells #[.int .i64 (f.nothM.cls : Int), .bool false, .slice none 0 0, .int .i64 0] 70)).alloc (Obj.map m0i 3)) w.heap.size 70 #[.int .i64 (f.nothM.cls : Int), .bool false, .slice none 0 0, .int .i64 0] := by
  show ((w.heap.push _).push _)[_]? = _
  rw [Array.getElem?_push_lt (by rw [Array.size_push]; omega)]
  simp
 simp only [m0i] at hC
 have ⟨b0, b1, b2, b3⟩ := hC.bx.e4
 refine bodyPost_ret (v := .agg #[.int .i64 (f.nothM.cls : Int), .bool false, .slice none 0 0, .int .i64 0]) (by simp [results, Tryz.results114, go_sem, b0, b1, b2, b3]) rfl ⟨rfl, ?_⟩
 refine ((Below.refl _ _).alloc (Nat.le_refl _) _).alloc ?_ _
 show _ ≤ (w.heap.push _).size
 rw [Array.size_push]; omega

def g1o (w : World) (v : Vl) (en : Ending) (w' : World) : Prop :=
 ∃ p c, en = .returned (.agg #[.int .i64 (v.cls : Int), .bool v.neg, .slice p (dig B32 v.d).length c, .int .i64 v.pow]) ∧ Own w' w.heap.size .u32 160 p c (dig B32 v.d) ∧ Below w.heap.size w w'

theorem f0x (f : Fm) (n way a : Int) (g : Bool) (u : Nat) (w : World) (U : Bt w u 139 #[.int .i64 n, .int .i64 way, .int .i64 f.g.rad, .int .i64 f.g.digs, .int .i64 f.g.lo, .int .i64 f.g.hi, .bool f.g.grad, .int .u8 (famB f), .int .i64 a]) (hd : 0 ≤ f.g.digs ∧ f.g.digs ≤ 1000) :
 Calls Tryz.prog 124 #[.pointer (some ⟨u, 0, none⟩), .bool g] w (g1o w ⟨2, g, 2 ^ (wid f.g * f.g.digs.toNat) - 1, f.g.hi⟩) := by
 have wp := b0n f.g
 have lu := U.lt
 have hmw : ((wid f.g * f.g.digs.toNat : Nat) : Int) = (wid f.g : Nat) * f.g.digs := by rw [Int.natCast_mul, Int.toNat_of_nonneg hd.1]
 have hmb : wid f.g * f.g.digs.toNat ≤ 4 * 1000 := Nat.mul_le_mul wp.2 (by omega)
 have l1 : (dig B32 1).length ≤ 1 := by rw [a0h a0a]; unfold B32; omega
 have l2 : (dig B32 (2 ^ (wid f.g * f.g.digs.toNat))).length ≤ 126 := a0p (n := wid f.g * f.g.digs.toNat + 1) (k := 126) (Nat.pow_lt_pow_right (a := 2) (by omega) (by omega)) (by omega)
 have h1 := Nat.one_le_two_pow (n := wid f.g * f.g.digs.toNat)
 have HW := fun W u hU => Lib.hid (a1b f n way a u W hU)
 generalize wid f.g * f.g.digs.toNat = m at *
 generalize hx : 2 ^ m = x at *
 have HX := Lib.hid hx
 clear hx
 have HM := Lib.hid hmw
 clear hmw
 have I := Inv.startR w [u] [⟨139, [.v (.int .i64 n), .v (.int .i64 way), .v (.int .i64 f.g.rad), .v (.int .i64 f.g.digs), .v (.int .i64 f.g.lo), .v (.int .i64 f.g.hi), .v (.bool f.g.grad), .v (.int .u8 (famB f)), .v (.int .i64 a)], true⟩] [] ⟨U, True.intro⟩ True.intro
 refine a0b [.p 0 0, .v (.bool g)] I Tryz.func124 ?_
 refine zg I (fun Al W I => (HW W _ (I.box 0 139 _)).out) fun Al V Iv hzV hB Kz kz => ?_
 rintro _ W ⟨rfl, hb⟩
 refine ⟨_, rfl, kz _ _ hb fun I => ?_⟩
 clear kz Kz
 refine zd [] I fun Al W I => ?_
 refine zk [1, 2, 3, 4, 5, 6] I fun I => ?_
 refine zki 7 I .i64 (((wid f.g : Nat) : Int) * f.g.digs) ((m : Int)) ((by rw [HM.out]; exact IntWalk.i64_in _ (by rw [← HM.out]; omega))) fun I => ?_
 refine zo 0 I (fun I => ?_)
 refine zg I (fun Al W I => have hzW := I.bel.size; sof 1 1 rfl (by omega) W) fun Al V Iv hzV hB Kz kz => ?_
 rintro _ W ⟨p9, c9, rfl, o9, hb⟩
 refine ⟨_, rfl, kz _ _ hb fun I => ?_⟩
 clear kz Kz
 have I := I.own o9
 refine zo 8 I (fun I => ?_)
 refine zg I (fun Al W I => have hzW := I.bel.size; sshl p9 _ c9 1 m x _ W I.fa.1.rd rfl (by omega) (by omega) rfl (by rw [HX.out]; omega)) fun Al V Iv hzV hB Kz kz => ?_
 rintro _ W ⟨p17, c17, rfl, o17, hb⟩
 refine ⟨_, rfl, kz _ _ hb fun I => ?_⟩
 clear kz Kz
 have I := I.own o17
 refine zo 9 I (fun I => ?_)
 refine zg I (fun Al W I => have hzW := I.bel.size; sof 1 1 rfl (by omega) W) fun Al V Iv hzV hB Kz kz => ?_
 rintro _ W ⟨p18, c18, rfl, o18, hb⟩
 refine ⟨_, rfl, kz _ _ hb fun I => ?_⟩
 clear kz Kz
 have I := I.own o18
 refine zo 10 I (fun I => ?_)
 refine zg I (fun Al W I => have hzW := I.bel.size; ssub p17 p18 _ _ c17 c18 x 1 (x - 1) W I.fa.2.1.rd I.fa.1.rd rfl rfl (by omega) (by omega) rfl) fun Al V Iv hzV hB Kz kz => ?_
 rintro _ W ⟨p19, c19, rfl, o19, hb⟩
 refine ⟨_, rfl, kz _ _ hb fun I => ?_⟩
 clear kz Kz
 have I := I.own o19
 refine zk [11] I fun I => ?_
 exact zret I fun Al W I => ⟨p19, c19, rfl, I.fa.1.mono (by omega), I.below⟩

def k0g (f : Fm) (n way c : Int) (u : Nat) (w : World) (v : Vl) (en : Ending) (w' : World) : Prop :=
 ∃ p k, en = .returned (.agg #[.int .i64 (v.cls : Int), .bool v.neg, .slice p (dig B32 v.d).length k, .int .i64 v.pow]) ∧ Own w' w.heap.size .u32 160 p k (dig B32 v.d) ∧ Kp [u] w w' ∧ Bt w' u 139 #[.int .i64 n, .int .i64 way, .int .i64 f.g.rad, .int .i64 f.g.digs, .int .i64 f.g.lo, .int .i64 f.g.hi, .bool f.g.grad, .int .u8 (famB f), .int .i64 c]

theorem c1z (f : Fm) (n way a c : Int) (g : Bool) (u : Nat) (w : World) (U : Bt w u 139 #[.int .i64 n, .int .i64 way, .int .i64 f.g.rad, .int .i64 f.g.digs, .int .i64 f.g.lo, .int .i64 f.g.hi, .bool f.g.grad, .int .u8 (famB f), .int .i64 a]) (hd : 0 ≤ f.g.digs ∧ f.g.digs ≤ 1000) (hc : bits .or .i64 a 5 = c) (h2 : f.fam = 2) :
 Calls Tryz.prog 150 #[.pointer (some ⟨u, 0, none⟩), .bool g] w (k0g f n way c u w ⟨2, g, 2 ^ (wid f.g * f.g.digs.toNat) - 1, f.g.hi⟩) := by
 have hF : famB f = 66 := by unfold famB; rw [if_neg (by omega), if_pos h2]
 have HR := fun W u hU => Lib.hid (b0o f n way a 5 c u W hU hc)
 have HG := fun W u hU => Lib.hid (f0x f n way c g u W hU hd)
 generalize 2 ^ (wid f.g * f.g.digs.toNat) - 1 = m at *
 have I := Inv.startW w u 139 [.v (.int .i64 n), .v (.int .i64 way), .v (.int .i64 f.g.rad), .v (.int .i64 f.g.digs), .v (.int .i64 f.g.lo), .v (.int .i64 f.g.hi), .v (.bool f.g.grad), .v (.int .u8 (famB f)), .v (.int .i64 a)] [] U True.intro True.intro
 refine a0b [.p 0 0, .v (.bool g)] I Tryz.func150 ?_
 refine zge I 0 139 (fun Al W I => (HR W _ (I.box 0 139 _)).out) fun Al V Iv hzV Kz kz => ?_
 rintro _ W ⟨rfl, hO, hB⟩
 refine ⟨_, rfl, kz _ [.v (.int .i64 n), .v (.int .i64 way), .v (.int .i64 f.g.rad), .v (.int .i64 f.g.digs), .v (.int .i64 f.g.lo), .v (.int .i64 f.g.hi), .v (.bool f.g.grad), .v (.int .u8 (famB f)), .v (.int .i64 c)] _ hO hB fun I => ?_⟩
 clear kz Kz
 refine zb I 13 ((famB f) == 66) (true) (beq_iff_eq.2 hF) fun Al W I => ?_
 refine zg I (fun Al W I => (HG W _ (I.box 0 139 _)).out) fun Al V Iv hzV hB Kz kz => ?_
 rintro _ W ⟨p16, c16, rfl, o16, hb⟩
 refine ⟨_, rfl, kz _ _ hb fun I => ?_⟩
 clear kz Kz
 have I := I.own o16
 exact zret I fun Al W I => ⟨p16, c16, rfl, I.fa.1.mono (by omega), I.bel, I.boxE 139 _⟩

theorem d0d {f : Fm} {n way c : Int} {u k : Nat} {g : Bool} {w w' : World} {en : Ending} (h : en = .returned (.agg #[.int .i64 (k : Int), .bool g, .slice none 0 0, .int .i64 0])) (hk : Kp [u] w w') (hb : Bt w' u 139 #[.int .i64 n, .int .i64 way, .int .i64 f.g.rad, .int .i64 f.g.digs, .int .i64 f.g.lo, .int .i64 f.g.hi, .bool f.g.grad, .int .u8 (famB f), .int .i64 c]) : k0g f n way c u w ⟨k, g, 0, 0⟩ en w' := by
 refine ⟨none, 0, ?_, ?_, hk, hb⟩
 · rw [h, a0c]; rfl
 · show Own _ _ _ _ _ _ (dig B32 0); rw [a0c]; exact Own.nil _ _ _ _

theorem d1a (f : Fm) (n way a c : Int) (g : Bool) (u : Nat) (w : World) (U : Bt w u 139 #[.int .i64 n, .int .i64 way, .int .i64 f.g.rad, .int .i64 f.g.digs, .int .i64 f.g.lo, .int .i64 f.g.hi, .bool f.g.grad, .int .u8 (famB f), .int .i64 a]) (hc : bits .or .i64 a 5 = c) (h1 : f.fam ≠ 1) (h2 : f.fam ≠ 2) :
 Calls Tryz.prog 150 #[.pointer (some ⟨u, 0, none⟩), .bool g] w (k0g f n way c u w ⟨f.nothM.cls, false, 0, 0⟩) := by
 have hF : famB f = 67 := by unfold famB; rw [if_neg h1, if_neg h2]
 have HR := fun W u hU => Lib.hid (b0o f n way a 5 c u W hU hc)
 have HG := fun W u hU => Lib.hid (m0j f n way c u W hU)
 generalize f.nothM.cls = k at *
 have I := Inv.startW w u 139 [.v (.int .i64 n), .v (.int .i64 way), .v (.int .i64 f.g.rad), .v (.int .i64 f.g.digs), .v (.int .i64 f.g.lo), .v (.int .i64 f.g.hi), .v (.bool f.g.grad), .v (.int .u8 (famB f)), .v (.int .i64 a)] [] U True.intro True.intro
 refine a0b [.p 0 0, .v (.bool g)] I Tryz.func150 ?_
 refine zge I 0 139 (fun Al W I => (HR W _ (I.box 0 139 _)).out) fun Al V Iv hzV Kz kz => ?_
 rintro _ W ⟨rfl, hO, hB⟩
 refine ⟨_, rfl, kz _ [.v (.int .i64 n), .v (.int .i64 way), .v (.int .i64 f.g.rad), .v (.int .i64 f.g.digs), .v (.int .i64 f.g.lo), .v (.int .i64 f.g.hi), .v (.bool f.g.grad), .v (.int .u8 (famB f)), .v (.int .i64 c)] _ hO hB fun I => ?_⟩
 clear kz Kz
 refine zb I 13 ((famB f) == 66) (false) (beq_eq_false_iff_ne.2 (by rw [hF]; decide)) fun Al W I => ?_
 refine zb I 18 ((famB f) == 67) (true) (beq_iff_eq.2 hF) fun Al W I => ?_
 refine zg I (fun Al W I => (HG W _ (I.box 0 139 _)).out) fun Al V Iv hzV hB Kz kz => ?_
 rintro _ W ⟨rfl, hb⟩
 refine ⟨_, rfl, kz _ _ hb fun I => ?_⟩
 clear kz Kz
 exact zret I fun Al W I => d0d rfl I.bel (I.boxE 139 _)

theorem j0v (g : Bool) (w : World) : Calls Tryz.prog 90 #[.bool g] w fun e w' => e = .returned (.agg #[.int .i64 3, .bool g, .slice none 0 0, .int .i64 0]) ∧ Below w.heap.size w w' := by
 have I := Inv.start w [] True.intro
 refine a0b [.v (.bool g)] I Tryz.func90 ?_
 exact zret I fun Al W I => ⟨rfl, I.below⟩
theorem d0j (k : Nat) (g : Bool) (p : Option Addr) (l c : Nat) (pw : Int) (w : World) : Calls Tryz.prog 52 #[.agg #[.int .i64 (k : Int), .bool g, .slice p l c, .int .i64 pw]] w fun e w' => e = .returned (.bool (decide (k = 4) || decide (k = 5))) ∧ Below w.heap.size w w' := by
 have e4 : ((k : Int) == 4) = decide (k = 4) := by rw [Bool.eq_iff_iff]; simp; omega
 have e5 : ((k : Int) == 5) = decide (k = 5) := by rw [Bool.eq_iff_iff]; simp; omega
 generalize decide (k = 5) = q at *
 by_cases h : k = 4
 · rw [decide_eq_true h] at e4 ⊢
   have I := Inv.start w [] True.intro
   refine a0b [.v (.agg #[.int .i64 (k : Int), .bool g, .slice p l c, .int .i64 pw])] I Tryz.func52 ?_
   refine zb I 5 ((k : Int) == 4) (true) (e4) fun Al W I => ?_
   exact zret I (v := fun Al => .bool true) fun Al W I => ⟨by rw [Bool.true_or], I.below⟩
 · rw [decide_eq_false h] at e4 ⊢
   have I := Inv.start w [] True.intro
   refine a0b [.v (.agg #[.int .i64 (k : Int), .bool g, .slice p l c, .int .i64 pw])] I Tryz.func52 ?_
   refine zb I 5 ((k : Int) == 4) (false) (e4) fun Al W I => ?_
   refine zb I 9 ((k : Int) == 5) (q) (e5) fun Al W I => ?_
   exact zret I (v := fun Al => .bool q) fun Al W I => ⟨by rw [Bool.false_or], I.below⟩
theorem a0f (k : Nat) (g : Bool) (p : Option Addr) (l c : Nat) (pw : Int) (w : World) : Calls Tryz.prog 69 #[.agg #[.int .i64 (k : Int), .bool g, .slice p l c, .int .i64 pw]] w fun e w' => e = .returned (.bool (decide (k = 3))) ∧ Below w.heap.size w w' := by
 have e : ((k : Int) == 3) = decide (k = 3) := by rw [Bool.eq_iff_iff]; simp; omega
 have I := Inv.start w [] True.intro
 refine a0b [.v (.agg #[.int .i64 (k : Int), .bool g, .slice p l c, .int .i64 pw])] I Tryz.func69 ?_
 exact zret I fun Al W I => ⟨congrArg (fun b => Ending.returned (.bool b)) e, I.below⟩

theorem d1b (f : Fm) (n way a c : Int) (g : Bool) (u : Nat) (w : World) (U : Bt w u 139 #[.int .i64 n, .int .i64 way, .int .i64 f.g.rad, .int .i64 f.g.digs, .int .i64 f.g.lo, .int .i64 f.g.hi, .bool f.g.grad, .int .u8 (famB f), .int .i64 a]) (hd : 0 ≤ f.g.digs ∧ f.g.digs ≤ 1000) (hc : bits .or .i64 a 5 = c) (h1 : f.fam = 1) (hw : 1 ≤ way ∧ way ≤ 5) :
 Calls Tryz.prog 150 #[.pointer (some ⟨u, 0, none⟩), .bool g] w (k0g f n way c u w (if way ≤ 2 ∨ (way = 4 ∧ g = false) ∨ (way = 5 ∧ g = true) then ⟨3, g, 0, 0⟩ else ⟨2, g, 2 ^ (wid f.g * f.g.digs.toNat) - 1, f.g.hi⟩)) := by
 have hF : famB f = 65 := by unfold famB; rw [if_pos h1]
 rcases (show way = 1 ∨ way = 2 ∨ way = 3 ∨ way = 4 ∨ way = 5 by omega) with rfl | rfl | rfl | rfl | rfl <;> cases g
 · rw [if_pos (by decide)]
   have HR := fun W u hU => Lib.hid (b0o f n 1 a 5 c u W hU hc)
   have I := Inv.startW w u 139 [.v (.int .i64 n), .v (.int .i64 1), .v (.int .i64 f.g.rad), .v (.int .i64 f.g.digs), .v (.int .i64 f.g.lo), .v (.int .i64 f.g.hi), .v (.bool f.g.grad), .v (.int .u8 (famB f)), .v (.int .i64 a)] [] U True.intro True.intro
   refine a0b [.p 0 0, .v (.bool false)] I Tryz.func150 ?_
   refine zge I 0 139 (fun Al W I => (HR W _ (I.box 0 139 _)).out) fun Al V Iv hzV Kz kz => ?_
   rintro _ W ⟨rfl, hO, hB⟩
   refine ⟨_, rfl, kz _ [.v (.int .i64 n), .v (.int .i64 1), .v (.int .i64 f.g.rad), .v (.int .i64 f.g.digs), .v (.int .i64 f.g.lo), .v (.int .i64 f.g.hi), .v (.bool f.g.grad), .v (.int .u8 (famB f)), .v (.int .i64 c)] _ hO hB fun I => ?_⟩
   clear kz Kz
   refine zb I 13 ((famB f) == 66) (false) (beq_eq_false_iff_ne.2 (by rw [hF]; decide)) fun Al W I => ?_
   refine zb I 18 ((famB f) == 67) (false) (beq_eq_false_iff_ne.2 (by rw [hF]; decide)) fun Al W I => ?_
   refine zg I (fun Al W I => j0v false W) fun Al V Iv hzV hB Kz kz => ?_
   rintro _ W ⟨rfl, hb⟩
   refine ⟨_, rfl, kz _ _ hb fun I => ?_⟩
   clear kz Kz
   exact zret I fun Al W I => d0d (k := 3) rfl I.bel (I.boxE 139 _)
 · rw [if_pos (by decide)]
   have HR := fun W u hU => Lib.hid (b0o f n 1 a 5 c u W hU hc)
   have I := Inv.startW w u 139 [.v (.int .i64 n), .v (.int .i64 1), .v (.int .i64 f.g.rad), .v (.int .i64 f.g.digs), .v (.int .i64 f.g.lo), .v (.int .i64 f.g.hi), .v (.bool f.g.grad), .v (.int .u8 (famB f)), .v (.int .i64 a)] [] U True.intro True.intro
   refine a0b [.p 0 0, .v (.bool true)] I Tryz.func150 ?_
   refine zge I 0 139 (fun Al W I => (HR W _ (I.box 0 139 _)).out) fun Al V Iv hzV Kz kz => ?_
   rintro _ W ⟨rfl, hO, hB⟩
   refine ⟨_, rfl, kz _ [.v (.int .i64 n), .v (.int .i64 1), .v (.int .i64 f.g.rad), .v (.int .i64 f.g.digs), .v (.int .i64 f.g.lo), .v (.int .i64 f.g.hi), .v (.bool f.g.grad), .v (.int .u8 (famB f)), .v (.int .i64 c)] _ hO hB fun I => ?_⟩
   clear kz Kz
   refine zb I 13 ((famB f) == 66) (false) (beq_eq_false_iff_ne.2 (by rw [hF]; decide)) fun Al W I => ?_
   refine zb I 18 ((famB f) == 67) (false) (beq_eq_false_iff_ne.2 (by rw [hF]; decide)) fun Al W I => ?_
   refine zg I (fun Al W I => j0v true W) fun Al V Iv hzV hB Kz kz => ?_
   rintro _ W ⟨rfl, hb⟩
   refine ⟨_, rfl, kz _ _ hb fun I => ?_⟩
   clear kz Kz
   exact zret I fun Al W I => d0d (k := 3) rfl I.bel (I.boxE 139 _)
 · rw [if_pos (by decide)]
   have HR := fun W u hU => Lib.hid (b0o f n 2 a 5 c u W hU hc)
   have I := Inv.startW w u 139 [.v (.int .i64 n), .v (.int .i64 2), .v (.int .i64 f.g.rad), .v (.int .i64 f.g.digs), .v (.int .i64 f.g.lo), .v (.int .i64 f.g.hi), .v (.bool f.g.grad), .v (.int .u8 (famB f)), .v (.int .i64 a)] [] U True.intro True.intro
   refine a0b [.p 0 0, .v (.bool false)] I Tryz.func150 ?_
   refine zge I 0 139 (fun Al W I => (HR W _ (I.box 0 139 _)).out) fun Al V Iv hzV Kz kz => ?_
   rintro _ W ⟨rfl, hO, hB⟩
   refine ⟨_, rfl, kz _ [.v (.int .i64 n), .v (.int .i64 2), .v (.int .i64 f.g.rad), .v (.int .i64 f.g.digs), .v (.int .i64 f.g.lo), .v (.int .i64 f.g.hi), .v (.bool f.g.grad), .v (.int .u8 (famB f)), .v (.int .i64 c)] _ hO hB fun I => ?_⟩
   clear kz Kz
   refine zb I 13 ((famB f) == 66) (false) (beq_eq_false_iff_ne.2 (by rw [hF]; decide)) fun Al W I => ?_
   refine zb I 18 ((famB f) == 67) (false) (beq_eq_false_iff_ne.2 (by rw [hF]; decide)) fun Al W I => ?_
   refine zg I (fun Al W I => j0v false W) fun Al V Iv hzV hB Kz kz => ?_
   rintro _ W ⟨rfl, hb⟩
   refine ⟨_, rfl, kz _ _ hb fun I => ?_⟩
   clear kz Kz
   exact zret I fun Al W I => d0d (k := 3) rfl I.bel (I.boxE 139 _)
 · rw [if_pos (by decide)]
   have HR := fun W u hU => Lib.hid (b0o f n 2 a 5 c u W hU hc)
   have I := Inv.startW w u 139 [.v (.int .i64 n), .v (.int .i64 2), .v (.int .i64 f.g.rad), .v (.int .i64 f.g.digs), .v (.int .i64 f.g.lo), .v (.int .i64 f.g.hi), .v (.bool f.g.grad), .v (.int .u8 (famB f)), .v (.int .i64 a)] [] U True.intro True.intro
   refine a0b [.p 0 0, .v (.bool true)] I Tryz.func150 ?_
   refine zge I 0 139 (fun Al W I => (HR W _ (I.box 0 139 _)).out) fun Al V Iv hzV Kz kz => ?_
   rintro _ W ⟨rfl, hO, hB⟩
   refine ⟨_, rfl, kz _ [.v (.int .i64 n), .v (.int .i64 2), .v (.int .i64 f.g.rad), .v (.int .i64 f.g.digs), .v (.int .i64 f.g.lo), .v (.int .i64 f.g.hi), .v (.bool f.g.grad), .v (.int .u8 (famB f)), .v (.int .i64 c)] _ hO hB fun I => ?_⟩
   clear kz Kz
   refine zb I 13 ((famB f) == 66) (false) (beq_eq_false_iff_ne.2 (by rw [hF]; decide)) fun Al W I => ?_
   refine zb I 18 ((famB f) == 67) (false) (beq_eq_false_iff_ne.2 (by rw [hF]; decide)) fun Al W I => ?_
   refine zg I (fun Al W I => j0v true W) fun Al V Iv hzV hB Kz kz => ?_
   rintro _ W ⟨rfl, hb⟩
   refine ⟨_, rfl, kz _ _ hb fun I => ?_⟩
   clear kz Kz
   exact zret I fun Al W I => d0d (k := 3) rfl I.bel (I.boxE 139 _)
 · rw [if_neg (by decide)]
   have HR := fun W u hU => Lib.hid (b0o f n 3 a 5 c u W hU hc)
   have HG := fun W u hU => Lib.hid (f0x f n 3 c false u W hU hd)
   generalize 2 ^ (wid f.g * f.g.digs.toNat) - 1 = m at *
   have I := Inv.startW w u 139 [.v (.int .i64 n), .v (.int .i64 3), .v (.int .i64 f.g.rad), .v (.int .i64 f.g.digs), .v (.int .i64 f.g.lo), .v (.int .i64 f.g.hi), .v (.bool f.g.grad), .v (.int .u8 (famB f)), .v (.int .i64 a)] [] U True.intro True.intro
   refine a0b [.p 0 0, .v (.bool false)] I Tryz.func150 ?_
   refine zge I 0 139 (fun Al W I => (HR W _ (I.box 0 139 _)).out) fun Al V Iv hzV Kz kz => ?_
   rintro _ W ⟨rfl, hO, hB⟩
   refine ⟨_, rfl, kz _ [.v (.int .i64 n), .v (.int .i64 3), .v (.int .i64 f.g.rad), .v (.int .i64 f.g.digs), .v (.int .i64 f.g.lo), .v (.int .i64 f.g.hi), .v (.bool f.g.grad), .v (.int .u8 (famB f)), .v (.int .i64 c)] _ hO hB fun I => ?_⟩
   clear kz Kz
   refine zb I 13 ((famB f) == 66) (false) (beq_eq_false_iff_ne.2 (by rw [hF]; decide)) fun Al W I => ?_
   refine zb I 18 ((famB f) == 67) (false) (beq_eq_false_iff_ne.2 (by rw [hF]; decide)) fun Al W I => ?_
   refine zg I (fun Al W I => (HG W _ (I.box 0 139 _)).out) fun Al V Iv hzV hB Kz kz => ?_
   rintro _ W ⟨p59, c59, rfl, o59, hb⟩
   refine ⟨_, rfl, kz _ _ hb fun I => ?_⟩
   clear kz Kz
   have I := I.own o59
   exact zret I fun Al W I => ⟨p59, c59, rfl, I.fa.1.mono (by omega), I.bel, I.boxE 139 _⟩
 · rw [if_neg (by decide)]
   have HR := fun W u hU => Lib.hid (b0o f n 3 a 5 c u W hU hc)
   have HG := fun W u hU => Lib.hid (f0x f n 3 c true u W hU hd)
   generalize 2 ^ (wid f.g * f.g.digs.toNat) - 1 = m at *
   have I := Inv.startW w u 139 [.v (.int .i64 n), .v (.int .i64 3), .v (.int .i64 f.g.rad), .v (.int .i64 f.g.digs), .v (.int .i64 f.g.lo), .v (.int .i64 f.g.hi), .v (.bool f.g.grad), .v (.int .u8 (famB f)), .v (.int .i64 a)] [] U True.intro True.intro
   refine a0b [.p 0 0, .v (.bool true)] I Tryz.func150 ?_
   refine zge I 0 139 (fun Al W I => (HR W _ (I.box 0 139 _)).out) fun Al V Iv hzV Kz kz => ?_
   rintro _ W ⟨rfl, hO, hB⟩
   refine ⟨_, rfl, kz _ [.v (.int .i64 n), .v (.int .i64 3), .v (.int .i64 f.g.rad), .v (.int .i64 f.g.digs), .v (.int .i64 f.g.lo), .v (.int .i64 f.g.hi), .v (.bool f.g.grad), .v (.int .u8 (famB f)), .v (.int .i64 c)] _ hO hB fun I => ?_⟩
   clear kz Kz
   refine zb I 13 ((famB f) == 66) (false) (beq_eq_false_iff_ne.2 (by rw [hF]; decide)) fun Al W I => ?_
   refine zb I 18 ((famB f) == 67) (false) (beq_eq_false_iff_ne.2 (by rw [hF]; decide)) fun Al W I => ?_
   refine zg I (fun Al W I => (HG W _ (I.box 0 139 _)).out) fun Al V Iv hzV hB Kz kz => ?_
   rintro _ W ⟨p59, c59, rfl, o59, hb⟩
   refine ⟨_, rfl, kz _ _ hb fun I => ?_⟩
   clear kz Kz
   have I := I.own o59
   exact zret I fun Al W I => ⟨p59, c59, rfl, I.fa.1.mono (by omega), I.bel, I.boxE 139 _⟩
 · rw [if_pos (by decide)]
   have HR := fun W u hU => Lib.hid (b0o f n 4 a 5 c u W hU hc)
   have I := Inv.startW w u 139 [.v (.int .i64 n), .v (.int .i64 4), .v (.int .i64 f.g.rad), .v (.int .i64 f.g.digs), .v (.int .i64 f.g.lo), .v (.int .i64 f.g.hi), .v (.bool f.g.grad), .v (.int .u8 (famB f)), .v (.int .i64 a)] [] U True.intro True.intro
   refine a0b [.p 0 0, .v (.bool false)] I Tryz.func150 ?_
   refine zge I 0 139 (fun Al W I => (HR W _ (I.box 0 139 _)).out) fun Al V Iv hzV Kz kz => ?_
   rintro _ W ⟨rfl, hO, hB⟩
   refine ⟨_, rfl, kz _ [.v (.int .i64 n), .v (.int .i64 4), .v (.int .i64 f.g.rad), .v (.int .i64 f.g.digs), .v (.int .i64 f.g.lo), .v (.int .i64 f.g.hi), .v (.bool f.g.grad), .v (.int .u8 (famB f)), .v (.int .i64 c)] _ hO hB fun I => ?_⟩
   clear kz Kz
   refine zb I 13 ((famB f) == 66) (false) (beq_eq_false_iff_ne.2 (by rw [hF]; decide)) fun Al W I => ?_
   refine zb I 18 ((famB f) == 67) (false) (beq_eq_false_iff_ne.2 (by rw [hF]; decide)) fun Al W I => ?_
   refine zg I (fun Al W I => j0v false W) fun Al V Iv hzV hB Kz kz => ?_
   rintro _ W ⟨rfl, hb⟩
   refine ⟨_, rfl, kz _ _ hb fun I => ?_⟩
   clear kz Kz
   exact zret I fun Al W I => d0d (k := 3) rfl I.bel (I.boxE 139 _)
 · rw [if_neg (by decide)]
   have HR := fun W u hU => Lib.hid (b0o f n 4 a 5 c u W hU hc)
   have HG := fun W u hU => Lib.hid (f0x f n 4 c true u W hU hd)
   generalize 2 ^ (wid f.g * f.g.digs.toNat) - 1 = m at *
   have I := Inv.startW w u 139 [.v (.int .i64 n), .v (.int .i64 4), .v (.int .i64 f.g.rad), .v (.int .i64 f.g.digs), .v (.int .i64 f.g.lo), .v (.int .i64 f.g.hi), .v (.bool f.g.grad), .v (.int .u8 (famB f)), .v (.int .i64 a)] [] U True.intro True.intro
   refine a0b [.p 0 0, .v (.bool true)] I Tryz.func150 ?_
   refine zge I 0 139 (fun Al W I => (HR W _ (I.box 0 139 _)).out) fun Al V Iv hzV Kz kz => ?_
   rintro _ W ⟨rfl, hO, hB⟩
   refine ⟨_, rfl, kz _ [.v (.int .i64 n), .v (.int .i64 4), .v (.int .i64 f.g.rad), .v (.int .i64 f.g.digs), .v (.int .i64 f.g.lo), .v (.int .i64 f.g.hi), .v (.bool f.g.grad), .v (.int .u8 (famB f)), .v (.int .i64 c)] _ hO hB fun I => ?_⟩
   clear kz Kz
   refine zb I 13 ((famB f) == 66) (false) (beq_eq_false_iff_ne.2 (by rw [hF]; decide)) fun Al W I => ?_
   refine zb I 18 ((famB f) == 67) (false) (beq_eq_false_iff_ne.2 (by rw [hF]; decide)) fun Al W I => ?_
   refine zg I (fun Al W I => (HG W _ (I.box 0 139 _)).out) fun Al V Iv hzV hB Kz kz => ?_
   rintro _ W ⟨p59, c59, rfl, o59, hb⟩
   refine ⟨_, rfl, kz _ _ hb fun I => ?_⟩
   clear kz Kz
   have I := I.own o59
   exact zret I fun Al W I => ⟨p59, c59, rfl, I.fa.1.mono (by omega), I.bel, I.boxE 139 _⟩
 · rw [if_neg (by decide)]
   have HR := fun W u hU => Lib.hid (b0o f n 5 a 5 c u W hU hc)
   have HG := fun W u hU => Lib.hid (f0x f n 5 c false u W hU hd)
   generalize 2 ^ (wid f.g * f.g.digs.toNat) - 1 = m at *
   have I := Inv.startW w u 139 [.v (.int .i64 n), .v (.int .i64 5), .v (.int .i64 f.g.rad), .v (.int .i64 f.g.digs), .v (.int .i64 f.g.lo), .v (.int .i64 f.g.hi), .v (.bool f.g.grad), .v (.int .u8 (famB f)), .v (.int .i64 a)] [] U True.intro True.intro
   refine a0b [.p 0 0, .v (.bool false)] I Tryz.func150 ?_
   refine zge I 0 139 (fun Al W I => (HR W _ (I.box 0 139 _)).out) fun Al V Iv hzV Kz kz => ?_
   rintro _ W ⟨rfl, hO, hB⟩
   refine ⟨_, rfl, kz _ [.v (.int .i64 n), .v (.int .i64 5), .v (.int .i64 f.g.rad), .v (.int .i64 f.g.digs), .v (.int .i64 f.g.lo), .v (.int .i64 f.g.hi), .v (.bool f.g.grad), .v (.int .u8 (famB f)), .v (.int .i64 c)] _ hO hB fun I => ?_⟩
   clear kz Kz
   refine zb I 13 ((famB f) == 66) (false) (beq_eq_false_iff_ne.2 (by rw [hF]; decide)) fun Al W I => ?_
   refine zb I 18 ((famB f) == 67) (false) (beq_eq_false_iff_ne.2 (by rw [hF]; decide)) fun Al W I => ?_
   refine zg I (fun Al W I => (HG W _ (I.box 0 139 _)).out) fun Al V Iv hzV hB Kz kz => ?_
   rintro _ W ⟨p59, c59, rfl, o59, hb⟩
   refine ⟨_, rfl, kz _ _ hb fun I => ?_⟩
   clear kz Kz
   have I := I.own o59
   exact zret I fun Al W I => ⟨p59, c59, rfl, I.fa.1.mono (by omega), I.bel, I.boxE 139 _⟩
 · rw [if_pos (by decide)]
   have HR := fun W u hU => Lib.hid (b0o f n 5 a 5 c u W hU hc)
   have I := Inv.startW w u 139 [.v (.int .i64 n), .v (.int .i64 5), .v (.int .i64 f.g.rad), .v (.int .i64 f.g.digs), .v (.int .i64 f.g.lo), .v (.int .i64 f.g.hi), .v (.bool f.g.grad), .v (.int .u8 (famB f)), .v (.int .i64 a)] [] U True.intro True.intro
   refine a0b [.p 0 0, .v (.bool true)] I Tryz.func150 ?_
   refine zge I 0 139 (fun Al W I => (HR W _ (I.box 0 139 _)).out) fun Al V Iv hzV Kz kz => ?_
   rintro _ W ⟨rfl, hO, hB⟩
   refine ⟨_, rfl, kz _ [.v (.int .i64 n), .v (.int .i64 5), .v (.int .i64 f.g.rad), .v (.int .i64 f.g.digs), .v (.int .i64 f.g.lo), .v (.int .i64 f.g.hi), .v (.bool f.g.grad), .v (.int .u8 (famB f)), .v (.int .i64 c)] _ hO hB fun I => ?_⟩
   clear kz Kz
   refine zb I 13 ((famB f) == 66) (false) (beq_eq_false_iff_ne.2 (by rw [hF]; decide)) fun Al W I => ?_
   refine zb I 18 ((famB f) == 67) (false) (beq_eq_false_iff_ne.2 (by rw [hF]; decide)) fun Al W I => ?_
   refine zg I (fun Al W I => j0v true W) fun Al V Iv hzV hB Kz kz => ?_
   rintro _ W ⟨rfl, hb⟩
   refine ⟨_, rfl, kz _ _ hb fun I => ?_⟩
   clear kz Kz
   exact zret I fun Al W I => d0d (k := 3) rfl I.bel (I.boxE 139 _)

theorem e1i (f : Fm) (n way a c : Int) (p : Pl) (u : Nat) (w : World) (U : Bt w u 139 #[.int .i64 n, .int .i64 way, .int .i64 f.g.rad, .int .i64 f.g.digs, .int .i64 f.g.lo, .int .i64 f.g.hi, .bool f.g.grad, .int .u8 (famB f), .int .i64 a]) (G : c0t f) (hc : bits .or .i64 a 5 = c) (hw : 1 ≤ way ∧ way ≤ 5) (ho : p.over = true) :
 Calls Tryz.prog 150 #[.pointer (some ⟨u, 0, none⟩), .bool p.neg] w (k0g f n way c u w (f.placedV p way)) := by
 have GG := c0g G.g
 have h1 := GG.d1
 have h2 := GG.d2
 have hf := G.fam
 unfold Fm.placedV
 rw [if_pos ho]
 by_cases f2 : f.fam = 2
 · rw [if_pos f2]; exact c1z f n way a c p.neg u w U (by omega) hc f2
 · rw [if_neg f2]
   by_cases f3 : f.fam = 3
   · rw [if_pos f3]; exact d1a f n way a c p.neg u w U hc (by omega) f2
   · rw [if_neg f3]; exact d1b f n way a c p.neg u w U (by omega) hc (by omega) hw

def d0k (f : Fm) (n way c : Int) (u : Nat) (w : World) (base : Nat) (v : Vl) (en : Ending) (w' : World) : Prop :=
 ∃ p k, en = .returned (.agg #[.int .i64 (v.cls : Int), .bool v.neg, .slice p (dig B32 v.d).length k, .int .i64 v.pow]) ∧ Own w' base .u32 160 p k (dig B32 v.d) ∧ Kp [u] w w' ∧ Bt w' u 139 #[.int .i64 n, .int .i64 way, .int .i64 f.g.rad, .int .i64 f.g.digs, .int .i64 f.g.lo, .int .i64 f.g.hi, .bool f.g.grad, .int .u8 (famB f), .int .i64 c]
theorem k0g.ub {f : Fm} {n way c : Int} {u base : Nat} {w w' : World} {v : Vl} {en : Ending} (h : k0g f n way c u w v en w') (hb : base ≤ w.heap.size) : d0k f n way c u w base v en w' := by
 obtain ⟨p, k, h1, h2, h3, h4⟩ := h
 exact ⟨p, k, h1, h2.mono hb, h3, h4⟩
theorem b0x {f : Fm} {n way c : Int} {u k base : Nat} {g : Bool} {w w' : World} {en : Ending} (h : en = .returned (.agg #[.int .i64 (k : Int), .bool g, .slice none 0 0, .int .i64 0])) (hk : Kp [u] w w') (hb : Bt w' u 139 #[.int .i64 n, .int .i64 way, .int .i64 f.g.rad, .int .i64 f.g.digs, .int .i64 f.g.lo, .int .i64 f.g.hi, .bool f.g.grad, .int .u8 (famB f), .int .i64 c]) : d0k f n way c u w base ⟨k, g, 0, 0⟩ en w' := by
 refine ⟨none, 0, ?_, ?_, hk, hb⟩
 · rw [h, a0c]; rfl
 · show Own _ _ _ _ _ _ (dig B32 0); rw [a0c]; exact Own.nil _ _ _ _

theorem k1k (f : Fm) (n way : Int) (ng : Bool) (d : Nat) (pw : Int) (pp : Option Addr) (cc base u : Nat) (w : World) (U : Bt w u 139 #[.int .i64 n, .int .i64 way, .int .i64 f.g.rad, .int .i64 f.g.digs, .int .i64 f.g.lo, .int .i64 f.g.hi, .bool f.g.grad, .int .u8 (famB f), .int .i64 0]) (hp : Own w base .u32 160 pp cc (dig B32 d)) :
 Calls Tryz.prog 108 #[.pointer (some ⟨u, 0, none⟩), .agg #[.bool ng, .slice pp (dig B32 d).length cc, .int .i64 pw, .bool true, .bool false, .bool false]] w (d0k f n way 0 u w base (if d = 0 then ⟨1, ng && decide (f.fam = 1), 0, 0⟩ else ⟨2, ng, d, pw⟩)) := by
 have hz := a0e a0a d
 have HZ := fun W u hU => Lib.hid (k0f f n way 0 ng u W hU)
 generalize (ng && decide (f.fam = 1)) = q at *
 have I := Inv.startW w u 139 [.v (.int .i64 n), .v (.int .i64 way), .v (.int .i64 f.g.rad), .v (.int .i64 f.g.digs), .v (.int .i64 f.g.lo), .v (.int .i64 f.g.hi), .v (.bool f.g.grad), .v (.int .u8 (famB f)), .v (.int .i64 0)] [ownF base .u32 160 pp cc (dig B32 d)] U ⟨hp, True.intro⟩ ⟨fun hf => hp.far U (by kernel_rfl) hf.1 hf.2, True.intro⟩
 refine a0b [.p 0 0, .v (.agg #[.bool ng, .slice pp (dig B32 d).length cc, .int .i64 pw, .bool true, .bool false, .bool false])] I Tryz.func108 ?_
 rcases Bool.eq_false_or_eq_true ((((dig B32 d).length : Nat) : Int) == 0) with f51 | f51
 · refine zb I 51 ((((dig B32 d).length : Nat) : Int) == 0) (true) (f51) fun Al W I => ?_
   refine zg I (fun Al W I => (HZ W _ (I.box 0 139 _)).out) fun Al V Iv hzV hB Kz kz => ?_
   rintro _ W ⟨rfl, hb⟩
   refine ⟨_, rfl, kz _ _ hb fun I => ?_⟩
   clear kz Kz
   rw [if_pos (hz.1 (by have := beq_iff_eq.1 f51; omega))]
   exact zret I fun Al W I => b0x (k := 1) rfl I.bel (I.boxE 139 _)
 refine zb I 51 ((((dig B32 d).length : Nat) : Int) == 0) (false) (f51) fun Al W I => ?_
 rw [if_neg (fun h => by have := hz.2 h; have := beq_eq_false_iff_ne.1 f51; omega)]
 exact zret I fun Al W I => ⟨pp, cc, rfl, I.fa.1, I.bel, I.boxE 139 _⟩

theorem k1l (f : Fm) (n way : Int) (ng : Bool) (d : Nat) (pw : Int) (pp : Option Addr) (cc base u : Nat) (w : World) (U : Bt w u 139 #[.int .i64 n, .int .i64 way, .int .i64 f.g.rad, .int .i64 f.g.digs, .int .i64 f.g.lo, .int .i64 f.g.hi, .bool f.g.grad, .int .u8 (famB f), .int .i64 0]) (hp : Own w base .u32 160 pp cc (dig B32 d)) :
 Calls Tryz.prog 108 #[.pointer (some ⟨u, 0, none⟩), .agg #[.bool ng, .slice pp (dig B32 d).length cc, .int .i64 pw, .bool false, .bool false, .bool false]] w (d0k f n way 1 u w base (if d = 0 then ⟨1, ng && decide (f.fam = 1), 0, 0⟩ else ⟨2, ng, d, pw⟩)) := by
 have hz := a0e a0a d
 have HR9 := fun W u hU => Lib.hid (b0o f n way 0 1 1 u W hU (by decide +kernel))
 have HZ := fun W u hU => Lib.hid (k0f f n way 1 ng u W hU)
 generalize (ng && decide (f.fam = 1)) = q at *
 have I := Inv.startW w u 139 [.v (.int .i64 n), .v (.int .i64 way), .v (.int .i64 f.g.rad), .v (.int .i64 f.g.digs), .v (.int .i64 f.g.lo), .v (.int .i64 f.g.hi), .v (.bool f.g.grad), .v (.int .u8 (famB f)), .v (.int .i64 0)] [ownF base .u32 160 pp cc (dig B32 d)] U ⟨hp, True.intro⟩ ⟨fun hf => hp.far U (by kernel_rfl) hf.1 hf.2, True.intro⟩
 refine a0b [.p 0 0, .v (.agg #[.bool ng, .slice pp (dig B32 d).length cc, .int .i64 pw, .bool false, .bool false, .bool false])] I Tryz.func108 ?_
 refine zge I 0 139 (fun Al W I => (HR9 W _ (I.box 0 139 _)).out) fun Al V Iv hzV Kz kz => ?_
 rintro _ W ⟨rfl, hO, hB⟩
 refine ⟨_, rfl, kz _ [.v (.int .i64 n), .v (.int .i64 way), .v (.int .i64 f.g.rad), .v (.int .i64 f.g.digs), .v (.int .i64 f.g.lo), .v (.int .i64 f.g.hi), .v (.bool f.g.grad), .v (.int .u8 (famB f)), .v (.int .i64 1)] _ hO hB fun I => ?_⟩
 clear kz Kz
 rcases Bool.eq_false_or_eq_true ((((dig B32 d).length : Nat) : Int) == 0) with f51 | f51
 · refine zb I 51 ((((dig B32 d).length : Nat) : Int) == 0) (true) (f51) fun Al W I => ?_
   refine zg I (fun Al W I => (HZ W _ (I.box 0 139 _)).out) fun Al V Iv hzV hB Kz kz => ?_
   rintro _ W ⟨rfl, hb⟩
   refine ⟨_, rfl, kz _ _ hb fun I => ?_⟩
   clear kz Kz
   rw [if_pos (hz.1 (by have := beq_iff_eq.1 f51; omega))]
   exact zret I fun Al W I => b0x (k := 1) rfl I.bel (I.boxE 139 _)
 refine zb I 51 ((((dig B32 d).length : Nat) : Int) == 0) (false) (f51) fun Al W I => ?_
 rw [if_neg (fun h => by have := hz.2 h; have := beq_eq_false_iff_ne.1 f51; omega)]
 exact zret I fun Al W I => ⟨pp, cc, rfl, I.fa.1, I.bel, I.boxE 139 _⟩

theorem k1m (f : Fm) (n way : Int) (ng : Bool) (d : Nat) (pw : Int) (pp : Option Addr) (cc base u : Nat) (w : World) (U : Bt w u 139 #[.int .i64 n, .int .i64 way, .int .i64 f.g.rad, .int .i64 f.g.digs, .int .i64 f.g.lo, .int .i64 f.g.hi, .bool f.g.grad, .int .u8 (famB f), .int .i64 0]) (hp : Own w base .u32 160 pp cc (dig B32 d)) (h1 : f.fam = 1) :
 Calls Tryz.prog 108 #[.pointer (some ⟨u, 0, none⟩), .agg #[.bool ng, .slice pp (dig B32 d).length cc, .int .i64 pw, .bool true, .bool false, .bool true]] w (d0k f n way 0 u w base (if d = 0 then ⟨1, ng && decide (f.fam = 1), 0, 0⟩ else ⟨2, ng, d, pw⟩)) := by
 have hF : (famB f != 65) = false := by unfold famB; rw [if_pos h1]; rfl
 have hz := a0e a0a d
 have HZ := fun W u hU => Lib.hid (k0f f n way 0 ng u W hU)
 generalize (ng && decide (f.fam = 1)) = q at *
 have I := Inv.startW w u 139 [.v (.int .i64 n), .v (.int .i64 way), .v (.int .i64 f.g.rad), .v (.int .i64 f.g.digs), .v (.int .i64 f.g.lo), .v (.int .i64 f.g.hi), .v (.bool f.g.grad), .v (.int .u8 (famB f)), .v (.int .i64 0)] [ownF base .u32 160 pp cc (dig B32 d)] U ⟨hp, True.intro⟩ ⟨fun hf => hp.far U (by kernel_rfl) hf.1 hf.2, True.intro⟩
 refine a0b [.p 0 0, .v (.agg #[.bool ng, .slice pp (dig B32 d).length cc, .int .i64 pw, .bool true, .bool false, .bool true])] I Tryz.func108 ?_
 refine zb I 25 ((famB f) != 65) (false) (hF) fun Al W I => ?_
 rcases Bool.eq_false_or_eq_true ((((dig B32 d).length : Nat) : Int) == 0) with f51 | f51
 · refine zb I 51 ((((dig B32 d).length : Nat) : Int) == 0) (true) (f51) fun Al W I => ?_
   refine zg I (fun Al W I => (HZ W _ (I.box 0 139 _)).out) fun Al V Iv hzV hB Kz kz => ?_
   rintro _ W ⟨rfl, hb⟩
   refine ⟨_, rfl, kz _ _ hb fun I => ?_⟩
   clear kz Kz
   rw [if_pos (hz.1 (by have := beq_iff_eq.1 f51; omega))]
   exact zret I fun Al W I => b0x (k := 1) rfl I.bel (I.boxE 139 _)
 refine zb I 51 ((((dig B32 d).length : Nat) : Int) == 0) (false) (f51) fun Al W I => ?_
 rw [if_neg (fun h => by have := hz.2 h; have := beq_eq_false_iff_ne.1 f51; omega)]
 exact zret I fun Al W I => ⟨pp, cc, rfl, I.fa.1, I.bel, I.boxE 139 _⟩

theorem k1n (f : Fm) (n way : Int) (ng : Bool) (d : Nat) (pw : Int) (pp : Option Addr) (cc base u : Nat) (w : World) (U : Bt w u 139 #[.int .i64 n, .int .i64 way, .int .i64 f.g.rad, .int .i64 f.g.digs, .int .i64 f.g.lo, .int .i64 f.g.hi, .bool f.g.grad, .int .u8 (famB f), .int .i64 0]) (hp : Own w base .u32 160 pp cc (dig B32 d)) (h1 : f.fam = 1) :
 Calls Tryz.prog 108 #[.pointer (some ⟨u, 0, none⟩), .agg #[.bool ng, .slice pp (dig B32 d).length cc, .int .i64 pw, .bool false, .bool false, .bool true]] w (d0k f n way 3 u w base (if d = 0 then ⟨1, ng && decide (f.fam = 1), 0, 0⟩ else ⟨2, ng, d, pw⟩)) := by
 have hF : (famB f != 65) = false := by unfold famB; rw [if_pos h1]; rfl
 have hz := a0e a0a d
 have HR9 := fun W u hU => Lib.hid (b0o f n way 0 1 1 u W hU (by decide +kernel))
 have HR47 := fun W u hU => Lib.hid (b0o f n way 1 2 3 u W hU (by decide +kernel))
 have HZ := fun W u hU => Lib.hid (k0f f n way 3 ng u W hU)
 generalize (ng && decide (f.fam = 1)) = q at *
 have I := Inv.startW w u 139 [.v (.int .i64 n), .v (.int .i64 way), .v (.int .i64 f.g.rad), .v (.int .i64 f.g.digs), .v (.int .i64 f.g.lo), .v (.int .i64 f.g.hi), .v (.bool f.g.grad), .v (.int .u8 (famB f)), .v (.int .i64 0)] [ownF base .u32 160 pp cc (dig B32 d)] U ⟨hp, True.intro⟩ ⟨fun hf => hp.far U (by kernel_rfl) hf.1 hf.2, True.intro⟩
 refine a0b [.p 0 0, .v (.agg #[.bool ng, .slice pp (dig B32 d).length cc, .int .i64 pw, .bool false, .bool false, .bool true])] I Tryz.func108 ?_
 refine zge I 0 139 (fun Al W I => (HR9 W _ (I.box 0 139 _)).out) fun Al V Iv hzV Kz kz => ?_
 rintro _ W ⟨rfl, hO, hB⟩
 refine ⟨_, rfl, kz _ [.v (.int .i64 n), .v (.int .i64 way), .v (.int .i64 f.g.rad), .v (.int .i64 f.g.digs), .v (.int .i64 f.g.lo), .v (.int .i64 f.g.hi), .v (.bool f.g.grad), .v (.int .u8 (famB f)), .v (.int .i64 1)] _ hO hB fun I => ?_⟩
 clear kz Kz
 refine zb I 25 ((famB f) != 65) (false) (hF) fun Al W I => ?_
 refine zge I 0 139 (fun Al W I => (HR47 W _ (I.box 0 139 _)).out) fun Al V Iv hzV Kz kz => ?_
 rintro _ W ⟨rfl, hO, hB⟩
 refine ⟨_, rfl, kz _ [.v (.int .i64 n), .v (.int .i64 way), .v (.int .i64 f.g.rad), .v (.int .i64 f.g.digs), .v (.int .i64 f.g.lo), .v (.int .i64 f.g.hi), .v (.bool f.g.grad), .v (.int .u8 (famB f)), .v (.int .i64 3)] _ hO hB fun I => ?_⟩
 clear kz Kz
 rcases Bool.eq_false_or_eq_true ((((dig B32 d).length : Nat) : Int) == 0) with f51 | f51
 · refine zb I 51 ((((dig B32 d).length : Nat) : Int) == 0) (true) (f51) fun Al W I => ?_
   refine zg I (fun Al W I => (HZ W _ (I.box 0 139 _)).out) fun Al V Iv hzV hB Kz kz => ?_
   rintro _ W ⟨rfl, hb⟩
   refine ⟨_, rfl, kz _ _ hb fun I => ?_⟩
   clear kz Kz
   rw [if_pos (hz.1 (by have := beq_iff_eq.1 f51; omega))]
   exact zret I fun Al W I => b0x (k := 1) rfl I.bel (I.boxE 139 _)
 refine zb I 51 ((((dig B32 d).length : Nat) : Int) == 0) (false) (f51) fun Al W I => ?_
 rw [if_neg (fun h => by have := hz.2 h; have := beq_eq_false_iff_ne.1 f51; omega)]
 exact zret I fun Al W I => ⟨pp, cc, rfl, I.fa.1, I.bel, I.boxE 139 _⟩

theorem k1o (f : Fm) (n way : Int) (ng : Bool) (d : Nat) (pw : Int) (pp : Option Addr) (cc base u : Nat) (w : World) (U : Bt w u 139 #[.int .i64 n, .int .i64 way, .int .i64 f.g.rad, .int .i64 f.g.digs, .int .i64 f.g.lo, .int .i64 f.g.hi, .bool f.g.grad, .int .u8 (famB f), .int .i64 0]) (hp : Own w base .u32 160 pp cc (dig B32 d)) (h1 : f.fam ≠ 1) (hlow : pw < f.g.lo) :
 Calls Tryz.prog 108 #[.pointer (some ⟨u, 0, none⟩), .agg #[.bool ng, .slice pp (dig B32 d).length cc, .int .i64 pw, .bool true, .bool false, .bool true]] w (d0k f n way 3 u w base ⟨1, false, 0, 0⟩) := by
 have hF : (famB f != 65) = true := by unfold famB; rw [if_neg h1]; split <;> rfl
 have hz := a0e a0a d
 have HR28 := fun W u hU => Lib.hid (b0o f n way 0 3 3 u W hU (by decide +kernel))
 clear hz
 have I := Inv.startW w u 139 [.v (.int .i64 n), .v (.int .i64 way), .v (.int .i64 f.g.rad), .v (.int .i64 f.g.digs), .v (.int .i64 f.g.lo), .v (.int .i64 f.g.hi), .v (.bool f.g.grad), .v (.int .u8 (famB f)), .v (.int .i64 0)] [ownF base .u32 160 pp cc (dig B32 d)] U ⟨hp, True.intro⟩ ⟨fun hf => hp.far U (by kernel_rfl) hf.1 hf.2, True.intro⟩
 refine a0b [.p 0 0, .v (.agg #[.bool ng, .slice pp (dig B32 d).length cc, .int .i64 pw, .bool true, .bool false, .bool true])] I Tryz.func108 ?_
 refine zb I 25 ((famB f) != 65) (true) (hF) fun Al W I => ?_
 refine zge I 0 139 (fun Al W I => (HR28 W _ (I.box 0 139 _)).out) fun Al V Iv hzV Kz kz => ?_
 rintro _ W ⟨rfl, hO, hB⟩
 refine ⟨_, rfl, kz _ [.v (.int .i64 n), .v (.int .i64 way), .v (.int .i64 f.g.rad), .v (.int .i64 f.g.digs), .v (.int .i64 f.g.lo), .v (.int .i64 f.g.hi), .v (.bool f.g.grad), .v (.int .u8 (famB f)), .v (.int .i64 3)] _ hO hB fun I => ?_⟩
 clear kz Kz
 refine zd [] I fun Al W I => ?_
 refine zk [0, 1, 2, 3, 4, 5, 6] I fun I => ?_
 refine zkb 7 I (decide (pw < f.g.lo)) (true) (decide_eq_true hlow) fun I => ?_
 exact zret I fun Al W I => b0x (k := 1) rfl I.bel (I.boxE 139 _)

theorem k1p (f : Fm) (n way : Int) (ng : Bool) (d : Nat) (pw : Int) (pp : Option Addr) (cc base u : Nat) (w : World) (U : Bt w u 139 #[.int .i64 n, .int .i64 way, .int .i64 f.g.rad, .int .i64 f.g.digs, .int .i64 f.g.lo, .int .i64 f.g.hi, .bool f.g.grad, .int .u8 (famB f), .int .i64 0]) (hp : Own w base .u32 160 pp cc (dig B32 d)) (h1 : f.fam ≠ 1) (hlow : pw < f.g.lo) :
 Calls Tryz.prog 108 #[.pointer (some ⟨u, 0, none⟩), .agg #[.bool ng, .slice pp (dig B32 d).length cc, .int .i64 pw, .bool false, .bool false, .bool true]] w (d0k f n way 3 u w base ⟨1, false, 0, 0⟩) := by
 have hF : (famB f != 65) = true := by unfold famB; rw [if_neg h1]; split <;> rfl
 have hz := a0e a0a d
 have HR9 := fun W u hU => Lib.hid (b0o f n way 0 1 1 u W hU (by decide +kernel))
 have HR28 := fun W u hU => Lib.hid (b0o f n way 1 3 3 u W hU (by decide +kernel))
 clear hz
 have I := Inv.startW w u 139 [.v (.int .i64 n), .v (.int .i64 way), .v (.int .i64 f.g.rad), .v (.int .i64 f.g.digs), .v (.int .i64 f.g.lo), .v (.int .i64 f.g.hi), .v (.bool f.g.grad), .v (.int .u8 (famB f)), .v (.int .i64 0)] [ownF base .u32 160 pp cc (dig B32 d)] U ⟨hp, True.intro⟩ ⟨fun hf => hp.far U (by kernel_rfl) hf.1 hf.2, True.intro⟩
 refine a0b [.p 0 0, .v (.agg #[.bool ng, .slice pp (dig B32 d).length cc, .int .i64 pw, .bool false, .bool false, .bool true])] I Tryz.func108 ?_
 refine zge I 0 139 (fun Al W I => (HR9 W _ (I.box 0 139 _)).out) fun Al V Iv hzV Kz kz => ?_
 rintro _ W ⟨rfl, hO, hB⟩
 refine ⟨_, rfl, kz _ [.v (.int .i64 n), .v (.int .i64 way), .v (.int .i64 f.g.rad), .v (.int .i64 f.g.digs), .v (.int .i64 f.g.lo), .v (.int .i64 f.g.hi), .v (.bool f.g.grad), .v (.int .u8 (famB f)), .v (.int .i64 1)] _ hO hB fun I => ?_⟩
 clear kz Kz
 refine zb I 25 ((famB f) != 65) (true) (hF) fun Al W I => ?_
 refine zge I 0 139 (fun Al W I => (HR28 W _ (I.box 0 139 _)).out) fun Al V Iv hzV Kz kz => ?_
 rintro _ W ⟨rfl, hO, hB⟩
 refine ⟨_, rfl, kz _ [.v (.int .i64 n), .v (.int .i64 way), .v (.int .i64 f.g.rad), .v (.int .i64 f.g.digs), .v (.int .i64 f.g.lo), .v (.int .i64 f.g.hi), .v (.bool f.g.grad), .v (.int .u8 (famB f)), .v (.int .i64 3)] _ hO hB fun I => ?_⟩
 clear kz Kz
 refine zd [] I fun Al W I => ?_
 refine zk [0, 1, 2, 3, 4, 5, 6] I fun I => ?_
 refine zkb 7 I (decide (pw < f.g.lo)) (true) (decide_eq_true hlow) fun I => ?_
 exact zret I fun Al W I => b0x (k := 1) rfl I.bel (I.boxE 139 _)

theorem k1q (f : Fm) (n way : Int) (ng : Bool) (d : Nat) (pw : Int) (pp : Option Addr) (cc base u : Nat) (w : World) (U : Bt w u 139 #[.int .i64 n, .int .i64 way, .int .i64 f.g.rad, .int .i64 f.g.digs, .int .i64 f.g.lo, .int .i64 f.g.hi, .bool f.g.grad, .int .u8 (famB f), .int .i64 0]) (hp : Own w base .u32 160 pp cc (dig B32 d)) (h1 : f.fam ≠ 1) (hlow : ¬ pw < f.g.lo) :
 Calls Tryz.prog 108 #[.pointer (some ⟨u, 0, none⟩), .agg #[.bool ng, .slice pp (dig B32 d).length cc, .int .i64 pw, .bool true, .bool false, .bool true]] w (d0k f n way 3 u w base (if d = 0 then ⟨1, ng && decide (f.fam = 1), 0, 0⟩ else ⟨2, ng, d, pw⟩)) := by
 have hF : (famB f != 65) = true := by unfold famB; rw [if_neg h1]; split <;> rfl
 have hz := a0e a0a d
 have HR28 := fun W u hU => Lib.hid (b0o f n way 0 3 3 u W hU (by decide +kernel))
 have HZ := fun W u hU => Lib.hid (k0f f n way 3 ng u W hU)
 generalize (ng && decide (f.fam = 1)) = q at *
 have I := Inv.startW w u 139 [.v (.int .i64 n), .v (.int .i64 way), .v (.int .i64 f.g.rad), .v (.int .i64 f.g.digs), .v (.int .i64 f.g.lo), .v (.int .i64 f.g.hi), .v (.bool f.g.grad), .v (.int .u8 (famB f)), .v (.int .i64 0)] [ownF base .u32 160 pp cc (dig B32 d)] U ⟨hp, True.intro⟩ ⟨fun hf => hp.far U (by kernel_rfl) hf.1 hf.2, True.intro⟩
 refine a0b [.p 0 0, .v (.agg #[.bool ng, .slice pp (dig B32 d).length cc, .int .i64 pw, .bool true, .bool false, .bool true])] I Tryz.func108 ?_
 refine zb I 25 ((famB f) != 65) (true) (hF) fun Al W I => ?_
 refine zge I 0 139 (fun Al W I => (HR28 W _ (I.box 0 139 _)).out) fun Al V Iv hzV Kz kz => ?_
 rintro _ W ⟨rfl, hO, hB⟩
 refine ⟨_, rfl, kz _ [.v (.int .i64 n), .v (.int .i64 way), .v (.int .i64 f.g.rad), .v (.int .i64 f.g.digs), .v (.int .i64 f.g.lo), .v (.int .i64 f.g.hi), .v (.bool f.g.grad), .v (.int .u8 (famB f)), .v (.int .i64 3)] _ hO hB fun I => ?_⟩
 clear kz Kz
 refine zd [] I fun Al W I => ?_
 refine zk [0, 1, 2, 3, 4, 5, 6] I fun I => ?_
 refine zkb 7 I (decide (pw < f.g.lo)) (false) (decide_eq_false hlow) fun I => ?_
 rcases Bool.eq_false_or_eq_true ((((dig B32 d).length : Nat) : Int) == 0) with f51 | f51
 · refine zb I 51 ((((dig B32 d).length : Nat) : Int) == 0) (true) (f51) fun Al W I => ?_
   refine zg I (fun Al W I => (HZ W _ (I.box 0 139 _)).out) fun Al V Iv hzV hB Kz kz => ?_
   rintro _ W ⟨rfl, hb⟩
   refine ⟨_, rfl, kz _ _ hb fun I => ?_⟩
   clear kz Kz
   rw [if_pos (hz.1 (by have := beq_iff_eq.1 f51; omega))]
   exact zret I fun Al W I => b0x (k := 1) rfl I.bel (I.boxE 139 _)
 refine zb I 51 ((((dig B32 d).length : Nat) : Int) == 0) (false) (f51) fun Al W I => ?_
 rw [if_neg (fun h => by have := hz.2 h; have := beq_eq_false_iff_ne.1 f51; omega)]
 exact zret I fun Al W I => ⟨pp, cc, rfl, I.fa.1, I.bel, I.boxE 139 _⟩

theorem k1r (f : Fm) (n way : Int) (ng : Bool) (d : Nat) (pw : Int) (pp : Option Addr) (cc base u : Nat) (w : World) (U : Bt w u 139 #[.int .i64 n, .int .i64 way, .int .i64 f.g.rad, .int .i64 f.g.digs, .int .i64 f.g.lo, .int .i64 f.g.hi, .bool f.g.grad, .int .u8 (famB f), .int .i64 0]) (hp : Own w base .u32 160 pp cc (dig B32 d)) (h1 : f.fam ≠ 1) (hlow : ¬ pw < f.g.lo) :
 Calls Tryz.prog 108 #[.pointer (some ⟨u, 0, none⟩), .agg #[.bool ng, .slice pp (dig B32 d).length cc, .int .i64 pw, .bool false, .bool false, .bool true]] w (d0k f n way 3 u w base (if d = 0 then ⟨1, ng && decide (f.fam = 1), 0, 0⟩ else ⟨2, ng, d, pw⟩)) := by
 have hF : (famB f != 65) = true := by unfold famB; rw [if_neg h1]; split <;> rfl
 have hz := a0e a0a d
 have HR9 := fun W u hU => Lib.hid (b0o f n way 0 1 1 u W hU (by decide +kernel))
 have HR28 := fun W u hU => Lib.hid (b0o f n way 1 3 3 u W hU (by decide +kernel))
 have HZ := fun W u hU => Lib.hid (k0f f n way 3 ng u W hU)
 generalize (ng && decide (f.fam = 1)) = q at *
 have I := Inv.startW w u 139 [.v (.int .i64 n), .v (.int .i64 way), .v (.int .i64 f.g.rad), .v (.int .i64 f.g.digs), .v (.int .i64 f.g.lo), .v (.int .i64 f.g.hi), .v (.bool f.g.grad), .v (.int .u8 (famB f)), .v (.int .i64 0)] [ownF base .u32 160 pp cc (dig B32 d)] U ⟨hp, True.intro⟩ ⟨fun hf => hp.far U (by kernel_rfl) hf.1 hf.2, True.intro⟩
 refine a0b [.p 0 0, .v (.agg #[.bool ng, .slice pp (dig B32 d).length cc, .int .i64 pw, .bool false, .bool false, .bool true])] I Tryz.func108 ?_
 refine zge I 0 139 (fun Al W I => (HR9 W _ (I.box 0 139 _)).out) fun Al V Iv hzV Kz kz => ?_
 rintro _ W ⟨rfl, hO, hB⟩
 refine ⟨_, rfl, kz _ [.v (.int .i64 n), .v (.int .i64 way), .v (.int .i64 f.g.rad), .v (.int .i64 f.g.digs), .v (.int .i64 f.g.lo), .v (.int .i64 f.g.hi), .v (.bool f.g.grad), .v (.int .u8 (famB f)), .v (.int .i64 1)] _ hO hB fun I => ?_⟩
 clear kz Kz
 refine zb I 25 ((famB f) != 65) (true) (hF) fun Al W I => ?_
 refine zge I 0 139 (fun Al W I => (HR28 W _ (I.box 0 139 _)).out) fun Al V Iv hzV Kz kz => ?_
 rintro _ W ⟨rfl, hO, hB⟩
 refine ⟨_, rfl, kz _ [.v (.int .i64 n), .v (.int .i64 way), .v (.int .i64 f.g.rad), .v (.int .i64 f.g.digs), .v (.int .i64 f.g.lo), .v (.int .i64 f.g.hi), .v (.bool f.g.grad), .v (.int .u8 (famB f)), .v (.int .i64 3)] _ hO hB fun I => ?_⟩
 clear kz Kz
 refine zd [] I fun Al W I => ?_
 refine zk [0, 1, 2, 3, 4, 5, 6] I fun I => ?_
 refine zkb 7 I (decide (pw < f.g.lo)) (false) (decide_eq_false hlow) fun I => ?_
 rcases Bool.eq_false_or_eq_true ((((dig B32 d).length : Nat) : Int) == 0) with f51 | f51
 · refine zb I 51 ((((dig B32 d).length : Nat) : Int) == 0) (true) (f51) fun Al W I => ?_
   refine zg I (fun Al W I => (HZ W _ (I.box 0 139 _)).out) fun Al V Iv hzV hB Kz kz => ?_
   rintro _ W ⟨rfl, hb⟩
   refine ⟨_, rfl, kz _ _ hb fun I => ?_⟩
   clear kz Kz
   rw [if_pos (hz.1 (by have := beq_iff_eq.1 f51; omega))]
   exact zret I fun Al W I => b0x (k := 1) rfl I.bel (I.boxE 139 _)
 refine zb I 51 ((((dig B32 d).length : Nat) : Int) == 0) (false) (f51) fun Al W I => ?_
 rw [if_neg (fun h => by have := hz.2 h; have := beq_eq_false_iff_ne.1 f51; omega)]
 exact zret I fun Al W I => ⟨pp, cc, rfl, I.fa.1, I.bel, I.boxE 139 _⟩

theorem k1s (f : Fm) (n way : Int) (p : Pl) (pp : Option Addr) (cc base u : Nat) (w : World) (U : Bt w u 139 #[.int .i64 n, .int .i64 way, .int .i64 f.g.rad, .int .i64 f.g.digs, .int .i64 f.g.lo, .int .i64 f.g.hi, .bool f.g.grad, .int .u8 (famB f), .int .i64 0]) (hb : base ≤ w.heap.size) (G : c0t f) (hw : 1 ≤ way ∧ way ≤ 5) (ho : p.over = true) :
 Calls Tryz.prog 108 #[.pointer (some ⟨u, 0, none⟩), .agg #[.bool p.neg, .slice pp (dig B32 p.d).length cc, .int .i64 p.pow, .bool true, .bool true, .bool p.under]] w (d0k f n way 5 u w base (f.placedV p way)) := by
 have HO := fun W u hU => Lib.hid (e1i f n way 0 5 p u W hU G (by decide +kernel) hw ho)
 generalize f.placedV p way = v at *
 have I := Inv.startW w u 139 [.v (.int .i64 n), .v (.int .i64 way), .v (.int .i64 f.g.rad), .v (.int .i64 f.g.digs), .v (.int .i64 f.g.lo), .v (.int .i64 f.g.hi), .v (.bool f.g.grad), .v (.int .u8 (famB f)), .v (.int .i64 0)] [] U True.intro True.intro
 refine a0b [.p 0 0, .v (.agg #[.bool p.neg, .slice pp (dig B32 p.d).length cc, .int .i64 p.pow, .bool true, .bool true, .bool p.under])] I Tryz.func108 ?_
 refine zge I 0 139 (fun Al W I => (HO W _ (I.box 0 139 _)).out) fun Al V Iv hzV Kz kz => ?_
 rintro _ W ⟨p16, c16, rfl, o16, hO, hB⟩
 refine ⟨_, rfl, kz _ [.v (.int .i64 n), .v (.int .i64 way), .v (.int .i64 f.g.rad), .v (.int .i64 f.g.digs), .v (.int .i64 f.g.lo), .v (.int .i64 f.g.hi), .v (.bool f.g.grad), .v (.int .u8 (famB f)), .v (.int .i64 5)] _ hO hB fun I => ?_⟩
 clear kz Kz
 have I := I.ownB base o16
 exact zret I fun Al W I => ⟨p16, c16, rfl, I.fa.1, I.bel, I.boxE 139 _⟩

theorem k1t (f : Fm) (n way : Int) (p : Pl) (pp : Option Addr) (cc base u : Nat) (w : World) (U : Bt w u 139 #[.int .i64 n, .int .i64 way, .int .i64 f.g.rad, .int .i64 f.g.digs, .int .i64 f.g.lo, .int .i64 f.g.hi, .bool f.g.grad, .int .u8 (famB f), .int .i64 0]) (hb : base ≤ w.heap.size) (G : c0t f) (hw : 1 ≤ way ∧ way ≤ 5) (ho : p.over = true) :
 Calls Tryz.prog 108 #[.pointer (some ⟨u, 0, none⟩), .agg #[.bool p.neg, .slice pp (dig B32 p.d).length cc, .int .i64 p.pow, .bool false, .bool true, .bool p.under]] w (d0k f n way 5 u w base (f.placedV p way)) := by
 have HO := fun W u hU => Lib.hid (e1i f n way 1 5 p u W hU G (by decide +kernel) hw ho)
 have HR := fun W u hU => Lib.hid (b0o f n way 0 1 1 u W hU (by decide +kernel))
 generalize f.placedV p way = v at *
 have I := Inv.startW w u 139 [.v (.int .i64 n), .v (.int .i64 way), .v (.int .i64 f.g.rad), .v (.int .i64 f.g.digs), .v (.int .i64 f.g.lo), .v (.int .i64 f.g.hi), .v (.bool f.g.grad), .v (.int .u8 (famB f)), .v (.int .i64 0)] [] U True.intro True.intro
 refine a0b [.p 0 0, .v (.agg #[.bool p.neg, .slice pp (dig B32 p.d).length cc, .int .i64 p.pow, .bool false, .bool true, .bool p.under])] I Tryz.func108 ?_
 refine zge I 0 139 (fun Al W I => (HR W _ (I.box 0 139 _)).out) fun Al V Iv hzV Kz kz => ?_
 rintro _ W ⟨rfl, hO, hB⟩
 refine ⟨_, rfl, kz _ [.v (.int .i64 n), .v (.int .i64 way), .v (.int .i64 f.g.rad), .v (.int .i64 f.g.digs), .v (.int .i64 f.g.lo), .v (.int .i64 f.g.hi), .v (.bool f.g.grad), .v (.int .u8 (famB f)), .v (.int .i64 1)] _ hO hB fun I => ?_⟩
 clear kz Kz
 refine zge I 0 139 (fun Al W I => (HO W _ (I.box 0 139 _)).out) fun Al V Iv hzV Kz kz => ?_
 rintro _ W ⟨p16, c16, rfl, o16, hO, hB⟩
 refine ⟨_, rfl, kz _ [.v (.int .i64 n), .v (.int .i64 way), .v (.int .i64 f.g.rad), .v (.int .i64 f.g.digs), .v (.int .i64 f.g.lo), .v (.int .i64 f.g.hi), .v (.bool f.g.grad), .v (.int .u8 (famB f)), .v (.int .i64 5)] _ hO hB fun I => ?_⟩
 clear kz Kz
 have I := I.ownB base o16
 exact zret I fun Al W I => ⟨p16, c16, rfl, I.fa.1, I.bel, I.boxE 139 _⟩

theorem g1p (f : Fm) (n way : Int) (p : Pl) (pp : Option Addr) (cc base u : Nat) (w : World) (U : Bt w u 139 #[.int .i64 n, .int .i64 way, .int .i64 f.g.rad, .int .i64 f.g.digs, .int .i64 f.g.lo, .int .i64 f.g.hi, .bool f.g.grad, .int .u8 (famB f), .int .i64 0]) (hp : Own w base .u32 160 pp cc (dig B32 p.d)) (hb : base ≤ w.heap.size) (G : c0t f) (hw : 1 ≤ way ∧ way ≤ 5) :
 Calls Tryz.prog 108 #[.pointer (some ⟨u, 0, none⟩), .agg #[.bool p.neg, .slice pp (dig B32 p.d).length cc, .int .i64 p.pow, .bool p.exact, .bool p.over, .bool p.under]] w (d0k f n way (((f.placedM p way).2 : Nat) : Int) u w base (f.placedV p way)) := by
 obtain ⟨ng, d, pw, ex, ov, un⟩ := p
 cases ov with
 | true =>
  have e : (f.placedM ⟨ng, d, pw, ex, true, un⟩ way).2 = 5 := by unfold Fm.placedM; rw [if_pos rfl]
  rw [e]
  cases ex
  · exact k1t f n way ⟨ng, d, pw, false, true, un⟩ pp cc base u w U hb G hw rfl
  · exact k1s f n way ⟨ng, d, pw, true, true, un⟩ pp cc base u w U hb G hw rfl
 | false =>
  have hV : f.placedV ⟨ng, d, pw, ex, false, un⟩ way = if un = true ∧ f.fam ≠ 1 ∧ pw < f.g.lo then ⟨1, false, 0, 0⟩ else if d = 0 then ⟨1, ng && decide (f.fam = 1), 0, 0⟩ else ⟨2, ng, d, pw⟩ := by unfold Fm.placedV; simp only [Bool.false_eq_true, if_false]
  have hM : (f.placedM ⟨ng, d, pw, ex, false, un⟩ way).2 = if un = true ∧ f.fam ≠ 1 ∧ pw < f.g.lo then 3 else f.flP ⟨ng, d, pw, ex, false, un⟩ := by
   unfold Fm.placedM; simp only [Bool.false_eq_true, if_false]
   split
   · rfl
   · split <;> rfl
  rw [hV, hM]
  cases un with
  | false =>
   rw [if_neg (fun h => by cases h.1), if_neg (fun h => by cases h.1)]
   unfold Fm.flP
   cases ex
   · exact k1l f n way ng d pw pp cc base u w U hp
   · exact k1k f n way ng d pw pp cc base u w U hp
  | true =>
   by_cases h1 : f.fam = 1
   · rw [if_neg (fun h => h.2.1 h1), if_neg (fun h => h.2.1 h1)]
     unfold Fm.flP
     rw [if_pos rfl, if_pos h1]
     cases ex
     · exact k1n f n way ng d pw pp cc base u w U hp h1
     · exact k1m f n way ng d pw pp cc base u w U hp h1
   · by_cases hlow : pw < f.g.lo
     · rw [if_pos ⟨rfl, h1, hlow⟩, if_pos ⟨rfl, h1, hlow⟩]
       cases ex
       · exact k1p f n way ng d pw pp cc base u w U hp h1 hlow
       · exact k1o f n way ng d pw pp cc base u w U hp h1 hlow
     · rw [if_neg (fun h => hlow h.2.2), if_neg (fun h => hlow h.2.2)]
       unfold Fm.flP
       rw [if_pos rfl, if_neg h1]
       cases ex
       · exact k1r f n way ng d pw pp cc base u w U hp h1 hlow
       · exact k1q f n way ng d pw pp cc base u w U hp h1 hlow

theorem a1c (ng : Bool) (p q : Option Addr) (c d : Nat) (num den : Nat) (e : Int) (g : Gd) (way : Int) (w : World) (hp : Rd w .u32 p (dig B32 num)) (hq : Rd w .u32 q (dig B32 den))
 (hl : (dig B32 num).length ≤ 100000) (hl2 : (dig B32 den).length ≤ 100000) (hn : 0 < num) (hd : 0 < den) (he : -1000000 ≤ e ∧ e ≤ 1000000) (G : j0h g) (hw1 : 1 ≤ way) (hw2 : way ≤ 5) :
 Calls Tryz.prog 106 #[.agg #[.bool ng, .slice p (dig B32 num).length c, .slice q (dig B32 den).length d, .int .i64 e], .agg #[.int .i64 g.rad, .int .i64 g.digs, .int .i64 g.lo, .int .i64 g.hi, .bool g.grad], .int .i64 way] w (u0d w (a0w ng num den e g way)) := by
 have h := s0u ng p q c d num den e g way (theK num den e (wid g) g.digs.toNat) w hp hq hl hl2 hn hd he G hw1 hw2 (o0d hn hd e (b0n g).1 (by have := G.d1; omega))
 unfold a0w
 rw [if_neg (by omega)]
 exact h

theorem k1u (f : Fm) (n way : Int) (ng : Bool) (p q : Option Addr) (c d : Nat) (num den : Nat) (e : Int) (u : Nat) (w : World) (U : Bt w u 139 #[.int .i64 n, .int .i64 way, .int .i64 f.g.rad, .int .i64 f.g.digs, .int .i64 f.g.lo, .int .i64 f.g.hi, .bool f.g.grad, .int .u8 (famB f), .int .i64 0]) (hp : Rd w .u32 p (dig B32 num)) (hq : Rd w .u32 q (dig B32 den))
 (hl : (dig B32 num).length ≤ 100000) (hl2 : (dig B32 den).length ≤ 100000) (hn : 0 < num) (hd : 0 < den) (he : -1000000 ≤ e ∧ e ≤ 1000000) (G : c0t f) (hw : 1 ≤ way ∧ way ≤ 5) :
 Calls Tryz.prog 62 #[.pointer (some ⟨u, 0, none⟩), .agg #[.bool ng, .slice p (dig B32 num).length c, .slice q (dig B32 den).length d, .int .i64 e]] w
  (k0g f n way (((f.placedM (a0w ng num den e f.g way) way).2 : Nat) : Int) u w (f.placedV (a0w ng num den e f.g way) way)) := by
 have GG := c0g G.g
 have HF := fun W h1 h2 => Lib.hid (a1c ng p q c d num den e f.g way W h1 h2 hl hl2 hn hd he GG hw.1 hw.2)
 have HP := fun pp cc base u W U h1 h2 => Lib.hid (g1p f n way (a0w ng num den e f.g way) pp cc base u W U h1 h2 G hw)
 have hR := z0x (neg := ng) (num := num) (e := e) (way := way) hd GG
 generalize (f.placedM (a0w ng num den e f.g way) way).2 = fl at *
 generalize f.placedV (a0w ng num den e f.g way) way = v at *
 generalize a0w ng num den e f.g way = P at *
 have I := Inv.startW w u 139 [.v (.int .i64 n), .v (.int .i64 way), .v (.int .i64 f.g.rad), .v (.int .i64 f.g.digs), .v (.int .i64 f.g.lo), .v (.int .i64 f.g.hi), .v (.bool f.g.grad), .v (.int .u8 (famB f)), .v (.int .i64 0)] [rdF .u32 p (dig B32 num), rdF .u32 q (dig B32 den)] U ⟨hp, hq, True.intro⟩ ⟨fun hf => hp.far U (by kernel_rfl) hf.1 hf.2, fun hf => hq.far U (by kernel_rfl) hf.1 hf.2, True.intro⟩
 refine a0b [.p 0 0, .v (.agg #[.bool ng, .slice p (dig B32 num).length c, .slice q (dig B32 den).length d, .int .i64 e])] I Tryz.func62 ?_
 refine zcut I none (fun fr bx gs => ∃ (U1 : Nat → Value) (p16 : Option Addr) (c16 : Nat), fr = (.p 0 0 :: .v (.agg #[.bool ng, .slice p (dig B32 num).length c, .slice q (dig B32 den).length d, .int .i64 e]) :: .v undef :: .p 1 0 :: .p 2 0 :: sw U1 5 12 [] : List SV) ∧ bx = [⟨139, [.v (.int .i64 n), .v (.int .i64 way), .v (.int .i64 f.g.rad), .v (.int .i64 f.g.digs), .v (.int .i64 f.g.lo), .v (.int .i64 f.g.hi), .v (.bool f.g.grad), .v (.int .u8 (famB f)), .v (.int .i64 (fl : Int))], false⟩, ⟨50, [.v (.bool ng), .v (.slice p (dig B32 num).length c), .v (.slice q (dig B32 den).length d), .v (.int .i64 e)], false⟩, ⟨70, [.v (.int .i64 (v.cls : Int)), .v (.bool v.neg), .v (.slice p16 (dig B32 v.d).length c16), .v (.int .i64 v.pow)], false⟩] ∧ gs = [ownF w.heap.size .u32 160 p16 c16 (dig B32 v.d), rdF .u32 p (dig B32 num), rdF .u32 q (dig B32 den)]) ?_ ?_
 · intro J hJ Al W I
   refine zd [0, 2] I fun Al W I => ?_
   refine zk [0, 1, 2, 3, 4, 6, 7, 8] I fun I => ?_
   refine zo2 5 9 I (fun I => ?_) (fun I => ?_)
   · refine zn I fun Al W I => ?_
     refine zo 9 I (fun I => ?_)
     refine zn I fun Al W I => ?_
     refine zo 10 I (fun I => ?_)
     refine zg I (fun Al W I => (HF W I.fa.1 I.fa.2.1).out) fun Al V Iv hzV hB Kz kz => ?_
     rintro _ W ⟨p15, c15, rfl, o15, hb⟩
     refine ⟨_, rfl, kz _ _ hb fun I => ?_⟩
     clear kz Kz
     have I := I.own o15
     refine zo 11 I (fun I => ?_)
     refine zge I 0 139 (fun Al W I => have hzW := I.bel.size; (HP p15 c15 _ _ W (I.box 0 139 _) I.fa.1 (by omega)).out) fun Al V Iv hzV Kz kz => ?_
     rintro _ W ⟨p16, c16, rfl, o16, hO, hB⟩
     refine ⟨_, rfl, kz _ [.v (.int .i64 n), .v (.int .i64 way), .v (.int .i64 f.g.rad), .v (.int .i64 f.g.digs), .v (.int .i64 f.g.lo), .v (.int .i64 f.g.hi), .v (.bool f.g.grad), .v (.int .u8 (famB f)), .v (.int .i64 (fl : Int))] _ hO hB fun I => ?_⟩
     clear kz Kz
     have I := I.own o16
     refine zo 12 I (fun I => ?_)
     refine zn I fun Al W I => ?_
     exact b0j I J fun Al W U I => hJ _ _ _ _ _ ⟨U, p16, c16, rfl, rfl, rfl⟩ (I.pick [0, 2, 3])
   refine zn I fun Al W I => ?_
   refine zo 5 I (fun I => ?_)
   refine zn I fun Al W I => ?_
   refine zo 10 I (fun I => ?_)
   refine zg I (fun Al W I => (HF W I.fa.1 I.fa.2.1).out) fun Al V Iv hzV hB Kz kz => ?_
   rintro _ W ⟨p15, c15, rfl, o15, hb⟩
   refine ⟨_, rfl, kz _ _ hb fun I => ?_⟩
   clear kz Kz
   have I := I.own o15
   refine zo 11 I (fun I => ?_)
   refine zge I 0 139 (fun Al W I => have hzW := I.bel.size; (HP p15 c15 _ _ W (I.box 0 139 _) I.fa.1 (by omega)).out) fun Al V Iv hzV Kz kz => ?_
   rintro _ W ⟨p16, c16, rfl, o16, hO, hB⟩
   refine ⟨_, rfl, kz _ [.v (.int .i64 n), .v (.int .i64 way), .v (.int .i64 f.g.rad), .v (.int .i64 f.g.digs), .v (.int .i64 f.g.lo), .v (.int .i64 f.g.hi), .v (.bool f.g.grad), .v (.int .u8 (famB f)), .v (.int .i64 (fl : Int))] _ hO hB fun I => ?_⟩
   clear kz Kz
   have I := I.own o16
   refine zo 12 I (fun I => ?_)
   refine zn I fun Al W I => ?_
   exact b0j I J fun Al W U I => hJ _ _ _ _ _ ⟨U, p16, c16, rfl, rfl, rfl⟩ (I.pick [0, 2, 3])
 rintro _ _ _ ⟨U1, p16, c16, rfl, rfl, rfl⟩ Al W I
 exact zret I fun Al W I => ⟨p16, c16, rfl, I.fa.1, I.bel, I.boxE 139 _⟩

structure VrOk (r : Vr) : Prop where
 c : 1 ≤ r.cls ∧ r.cls ≤ 5
 x0 : r.cls ≠ 2 → r.x = vz
 x2 : r.cls = 2 → r.x.m ≠ 0 ∧ r.x.neg = r.neg
 bare : Bare r.x
 len : (dig B32 r.x.m).length ≤ 20
 lo : -18000 ≤ r.x.e
 hi : r.x.e ≤ 18000
def g0j (f : Fm) (n way : Int) (u : Nat) (w : World) (base : Nat) (r : Vr × Nat) (en : Ending) (w' : World) : Prop :=
 ∃ v, VRep f v r.1 ∧ d0k f n way ((r.2 : Nat) : Int) u w base v en w'
theorem b0e {f : Fm} {n way : Int} {u k fl base : Nat} {g : Bool} {x : Dv} {w w' : World} {en : Ending} (hk2 : k ≠ 2) (h : en = .returned (.agg #[.int .i64 (k : Int), .bool g, .slice none 0 0, .int .i64 0])) (hk : Kp [u] w w') (hb : Bt w' u 139 #[.int .i64 n, .int .i64 way, .int .i64 f.g.rad, .int .i64 f.g.digs, .int .i64 f.g.lo, .int .i64 f.g.hi, .bool f.g.grad, .int .u8 (famB f), .int .i64 (fl : Int)]) : g0j f n way u w base (⟨k, g, x⟩, fl) en w' :=
 ⟨⟨k, g, 0, 0⟩, f0w hk2, b0x h hk hb⟩
theorem g0j.mono {f : Fm} {n way : Int} {u base b' : Nat} {w w' : World} {r : Vr × Nat} {en : Ending} (h : g0j f n way u w base r en w') (hb : b' ≤ base) : g0j f n way u w b' r en w' := by
 obtain ⟨v, h1, p, k, h2, h3, h4, h5⟩ := h
 exact ⟨v, h1, p, k, h2, h3.mono hb, h4, h5⟩

theorem d1c (f : Fm) (n way fl : Int) (v : Vl) (r : Vr) (p : Option Addr) (c b0 u : Nat) (w : World) (U : Bt w u 139 #[.int .i64 n, .int .i64 way, .int .i64 f.g.rad, .int .i64 f.g.digs, .int .i64 f.g.lo, .int .i64 f.g.hi, .bool f.g.grad, .int .u8 (famB f), .int .i64 fl]) (hp : Own w b0 .u32 160 p c (dig B32 v.d)) (V : VRep f v r) (R : VrOk r) (hT : TabW w) :
 Calls Tryz.prog 72 #[.pointer (some ⟨u, 0, none⟩), .agg #[.int .i64 (v.cls : Int), .bool v.neg, .slice p (dig B32 v.d).length c, .int .i64 v.pow]] w (f0p w w.heap.size r.x) := by
 have hx : bare ⟨v.neg, v.d, wid f.g * v.pow⟩ = r.x := by
  by_cases h2 : r.cls = 2
  · exact V.num h2
  · rw [R.x0 h2, (V.oth h2).1]; rfl
 have hl := V.len
 have hlo := V.lo
 have hhi := V.hi
 have wp := b0n f.g
 have hmu := q0u (wd := wid f.g) (k := v.pow) (B := 20000) wp.2 ⟨hlo, hhi⟩
 rw [← hx, ← q0g]
 clear hx R V
 obtain ⟨cls, g, d0, pw⟩ := v
 simp only at *
 generalize hmw : (wid f.g : Int) * pw = mw at *
 have HMW := Lib.hid hmw
 have HW := fun W u hU => Lib.hid (a1b f n way fl u W hU)
 have HH := fun W (c : Nat) h1 h0 h2 => Lib.hid (q0p p _ c mw d0 W h1 rfl h0 (by omega) (by omega) h2)
 clear hmw
 generalize hd : bare ⟨false, d0, mw⟩ = d at *
 clear hd
 cases g with
 | false =>
  rw [if_neg (by simp)]
  have I := Inv.startR w [u] [⟨139, [.v (.int .i64 n), .v (.int .i64 way), .v (.int .i64 f.g.rad), .v (.int .i64 f.g.digs), .v (.int .i64 f.g.lo), .v (.int .i64 f.g.hi), .v (.bool f.g.grad), .v (.int .u8 (famB f)), .v (.int .i64 fl)], true⟩] [ownF b0 .u32 160 p c (dig B32 d0), tabF] ⟨U, True.intro⟩ ⟨hp, hT, True.intro⟩
  refine a0b [.p 0 0, .v (.agg #[.int .i64 (cls : Int), .bool false, .slice p (dig B32 d0).length c, .int .i64 pw])] I Tryz.func72 ?_
  refine zcut I none (fun fr bx gs => ∃ (U1 : Nat → Value) (p13 : Option Addr) (c13 : Nat), fr = (.p 0 0 :: .v (.agg #[.int .i64 (cls : Int), .bool false, .slice p (dig B32 d0).length c, .int .i64 pw]) :: .v undef :: .p 1 0 :: .p 2 0 :: .p 3 0 :: sw U1 6 9 (.v undef :: sw U1 16 3 []) : List SV) ∧ bx = [⟨139, [.v (.int .i64 n), .v (.int .i64 way), .v (.int .i64 f.g.rad), .v (.int .i64 f.g.digs), .v (.int .i64 f.g.lo), .v (.int .i64 f.g.hi), .v (.bool f.g.grad), .v (.int .u8 (famB f)), .v (.int .i64 fl)], true⟩, ⟨70, [.v (.int .i64 (cls : Int)), .v (.bool false), .v (.slice p (dig B32 d0).length c), .v (.int .i64 pw)], false⟩, ⟨119, [.v (.bool false), .v (.slice none 0 0), .v (.int .i64 0)], false⟩, ⟨119, [.v (.bool d.neg), .v (.slice p13 (dig B32 d.m).length c13), .v (.int .i64 d.e)], false⟩] ∧ gs = [ownF w.heap.size .u32 160 p13 c13 (dig B32 d.m), ownF b0 .u32 160 p c (dig B32 d0), tabF]) ?_ ?_
  · intro J hJ Al W I
    refine zd [] I fun Al W I => ?_
    refine zk [0, 1, 2, 4, 5] I fun I => ?_
    refine zo2 3 8 I (fun I => ?_) (fun I => ?_)
    · refine zg I (fun Al W I => (HW W _ (I.box 0 139 _)).out) fun Al V Iv hzV hB Kz kz => ?_
      rintro _ W ⟨rfl, hb⟩
      refine ⟨_, rfl, kz _ _ hb fun I => ?_⟩
      clear kz Kz
      refine zki 6 I .i64 (((wid f.g : Nat) : Int) * pw) (mw) ((by rw [HMW.out]; exact IntWalk.i64_in _ (by omega))) fun I => ?_
      refine zo2 7 8 I (fun I => ?_) (fun I => ?_)
      · refine zg I (fun Al W I => (HH W c I.fa.1.rd I.fa.1.le_cap I.fa.2.1).out) fun Al V Iv hzV hB Kz kz => ?_
        rintro _ W ⟨p13, c13, rfl, o13, hb⟩
        refine ⟨_, rfl, kz _ _ hb fun I => ?_⟩
        clear kz Kz
        have I := I.own o13
        refine zo 8 I (fun I => ?_)
        refine zn I fun Al W I => ?_
        refine zo 9 I (fun I => ?_)
        refine zn I fun Al W I => ?_
        exact b0j I J fun Al W U I => hJ _ _ _ _ _ ⟨U, p13, c13, rfl, rfl, rfl⟩ (I.pick [0, 1, 2])
      refine zn I fun Al W I => ?_
      refine zo 7 I (fun I => ?_)
      refine zg I (fun Al W I => (HH W c I.fa.1.rd I.fa.1.le_cap I.fa.2.1).out) fun Al V Iv hzV hB Kz kz => ?_
      rintro _ W ⟨p13, c13, rfl, o13, hb⟩
      refine ⟨_, rfl, kz _ _ hb fun I => ?_⟩
      clear kz Kz
      have I := I.own o13
      refine zo 9 I (fun I => ?_)
      refine zn I fun Al W I => ?_
      exact b0j I J fun Al W U I => hJ _ _ _ _ _ ⟨U, p13, c13, rfl, rfl, rfl⟩ (I.pick [0, 1, 2])
    refine zn I fun Al W I => ?_
    refine zo 3 I (fun I => ?_)
    refine zg I (fun Al W I => (HW W _ (I.box 0 139 _)).out) fun Al V Iv hzV hB Kz kz => ?_
    rintro _ W ⟨rfl, hb⟩
    refine ⟨_, rfl, kz _ _ hb fun I => ?_⟩
    clear kz Kz
    refine zki 6 I .i64 (((wid f.g : Nat) : Int) * pw) (mw) ((by rw [HMW.out]; exact IntWalk.i64_in _ (by omega))) fun I => ?_
    refine zo 7 I (fun I => ?_)
    refine zg I (fun Al W I => (HH W c I.fa.1.rd I.fa.1.le_cap I.fa.2.1).out) fun Al V Iv hzV hB Kz kz => ?_
    rintro _ W ⟨p13, c13, rfl, o13, hb⟩
    refine ⟨_, rfl, kz _ _ hb fun I => ?_⟩
    clear kz Kz
    have I := I.own o13
    refine zo 9 I (fun I => ?_)
    refine zn I fun Al W I => ?_
    exact b0j I J fun Al W U I => hJ _ _ _ _ _ ⟨U, p13, c13, rfl, rfl, rfl⟩ (I.pick [0, 1, 2])
  rintro _ _ _ ⟨U1, p13, c13, rfl, rfl, rfl⟩ Al W I
  exact zret I fun Al W I => ⟨p13, c13, rfl, I.fa.1.mono (by omega), I.below⟩
 | true =>
  rw [if_pos rfl]
  have I := Inv.startR w [u] [⟨139, [.v (.int .i64 n), .v (.int .i64 way), .v (.int .i64 f.g.rad), .v (.int .i64 f.g.digs), .v (.int .i64 f.g.lo), .v (.int .i64 f.g.hi), .v (.bool f.g.grad), .v (.int .u8 (famB f)), .v (.int .i64 fl)], true⟩] [ownF b0 .u32 160 p c (dig B32 d0), tabF] ⟨U, True.intro⟩ ⟨hp, hT, True.intro⟩
  refine a0b [.p 0 0, .v (.agg #[.int .i64 (cls : Int), .bool true, .slice p (dig B32 d0).length c, .int .i64 pw])] I Tryz.func72 ?_
  refine zcut I none (fun fr bx gs => ∃ (U1 : Nat → Value) (p13 : Option Addr) (c13 : Nat), fr = (.p 0 0 :: .v (.agg #[.int .i64 (cls : Int), .bool true, .slice p (dig B32 d0).length c, .int .i64 pw]) :: .v undef :: .p 1 0 :: .p 2 0 :: .p 3 0 :: sw U1 6 9 (.v undef :: sw U1 16 3 []) : List SV) ∧ bx = [⟨139, [.v (.int .i64 n), .v (.int .i64 way), .v (.int .i64 f.g.rad), .v (.int .i64 f.g.digs), .v (.int .i64 f.g.lo), .v (.int .i64 f.g.hi), .v (.bool f.g.grad), .v (.int .u8 (famB f)), .v (.int .i64 fl)], true⟩, ⟨70, [.v (.int .i64 (cls : Int)), .v (.bool true), .v (.slice p (dig B32 d0).length c), .v (.int .i64 pw)], false⟩, ⟨119, [.v (.bool false), .v (.slice none 0 0), .v (.int .i64 0)], false⟩, ⟨119, [.v (.bool d.neg), .v (.slice p13 (dig B32 d.m).length c13), .v (.int .i64 d.e)], false⟩] ∧ gs = [ownF w.heap.size .u32 160 p13 c13 (dig B32 d.m), ownF b0 .u32 160 p c (dig B32 d0), tabF]) ?_ ?_
  · intro J hJ Al W I
    refine zd [] I fun Al W I => ?_
    refine zk [0, 1, 2, 4, 5] I fun I => ?_
    refine zo2 3 8 I (fun I => ?_) (fun I => ?_)
    · refine zg I (fun Al W I => (HW W _ (I.box 0 139 _)).out) fun Al V Iv hzV hB Kz kz => ?_
      rintro _ W ⟨rfl, hb⟩
      refine ⟨_, rfl, kz _ _ hb fun I => ?_⟩
      clear kz Kz
      refine zki 6 I .i64 (((wid f.g : Nat) : Int) * pw) (mw) ((by rw [HMW.out]; exact IntWalk.i64_in _ (by omega))) fun I => ?_
      refine zo2 7 8 I (fun I => ?_) (fun I => ?_)
      · refine zg I (fun Al W I => (HH W c I.fa.1.rd I.fa.1.le_cap I.fa.2.1).out) fun Al V Iv hzV hB Kz kz => ?_
        rintro _ W ⟨p13, c13, rfl, o13, hb⟩
        refine ⟨_, rfl, kz _ _ hb fun I => ?_⟩
        clear kz Kz
        have I := I.own o13
        refine zo 8 I (fun I => ?_)
        refine zn I fun Al W I => ?_
        refine zo 9 I (fun I => ?_)
        refine zn I fun Al W I => ?_
        exact b0j I J fun Al W U I => hJ _ _ _ _ _ ⟨U, p13, c13, rfl, rfl, rfl⟩ (I.pick [0, 1, 2])
      refine zn I fun Al W I => ?_
      refine zo 7 I (fun I => ?_)
      refine zg I (fun Al W I => (HH W c I.fa.1.rd I.fa.1.le_cap I.fa.2.1).out) fun Al V Iv hzV hB Kz kz => ?_
      rintro _ W ⟨p13, c13, rfl, o13, hb⟩
      refine ⟨_, rfl, kz _ _ hb fun I => ?_⟩
      clear kz Kz
      have I := I.own o13
      refine zo 9 I (fun I => ?_)
      refine zn I fun Al W I => ?_
      exact b0j I J fun Al W U I => hJ _ _ _ _ _ ⟨U, p13, c13, rfl, rfl, rfl⟩ (I.pick [0, 1, 2])
    refine zn I fun Al W I => ?_
    refine zo 3 I (fun I => ?_)
    refine zg I (fun Al W I => (HW W _ (I.box 0 139 _)).out) fun Al V Iv hzV hB Kz kz => ?_
    rintro _ W ⟨rfl, hb⟩
    refine ⟨_, rfl, kz _ _ hb fun I => ?_⟩
    clear kz Kz
    refine zki 6 I .i64 (((wid f.g : Nat) : Int) * pw) (mw) ((by rw [HMW.out]; exact IntWalk.i64_in _ (by omega))) fun I => ?_
    refine zo 7 I (fun I => ?_)
    refine zg I (fun Al W I => (HH W c I.fa.1.rd I.fa.1.le_cap I.fa.2.1).out) fun Al V Iv hzV hB Kz kz => ?_
    rintro _ W ⟨p13, c13, rfl, o13, hb⟩
    refine ⟨_, rfl, kz _ _ hb fun I => ?_⟩
    clear kz Kz
    have I := I.own o13
    refine zo 9 I (fun I => ?_)
    refine zn I fun Al W I => ?_
    exact b0j I J fun Al W U I => hJ _ _ _ _ _ ⟨U, p13, c13, rfl, rfl, rfl⟩ (I.pick [0, 1, 2])
  rintro _ _ _ ⟨U1, p13, c13, rfl, rfl, rfl⟩ Al W I
  refine zg I (fun Al W I => y0z d.neg p13 _ c13 d.e d.m W rfl) fun Al V Iv hzV hB Kz kz => ?_
  rintro _ W ⟨rfl, hb⟩
  refine ⟨_, rfl, kz _ _ hb fun I => ?_⟩
  clear kz Kz
  exact zret I fun Al W I => ⟨p13, c13, rfl, I.fa.1.mono (by omega), I.below⟩

theorem j1f (f : Fm) (n way : Int) (u : Nat) (w : World) (U : Bt w u 139 #[.int .i64 n, .int .i64 way, .int .i64 f.g.rad, .int .i64 f.g.digs, .int .i64 f.g.lo, .int .i64 f.g.hi, .bool f.g.grad, .int .u8 (famB f), .int .i64 0]) (fl : Nat) (b : Int) (hc : bits .or .i64 0 b = (fl : Nat)) :
 Calls Tryz.prog 70 #[.pointer (some ⟨u, 0, none⟩), .int .i64 b] w (g0j f n way u w w.heap.size (f.nothM, fl)) := by
 have HR := fun W u hU => Lib.hid (b0o f n way 0 b (fl : Nat) u W hU hc)
 have HN := fun W u hU => Lib.hid (m0j f n way (fl : Nat) u W hU)
 have hk : f.nothM.cls ≠ 2 := by unfold Fm.nothM; simp only; split <;> (try split) <;> omega
 have e : f.nothM = ⟨f.nothM.cls, false, vz⟩ := rfl
 rw [e]
 generalize f.nothM.cls = k at *
 have I := Inv.startW w u 139 [.v (.int .i64 n), .v (.int .i64 way), .v (.int .i64 f.g.rad), .v (.int .i64 f.g.digs), .v (.int .i64 f.g.lo), .v (.int .i64 f.g.hi), .v (.bool f.g.grad), .v (.int .u8 (famB f)), .v (.int .i64 0)] [] U True.intro True.intro
 refine a0b [.p 0 0, .v (.int .i64 b)] I Tryz.func70 ?_
 refine zge I 0 139 (fun Al W I => (HR W _ (I.box 0 139 _)).out) fun Al V Iv hzV Kz kz => ?_
 rintro _ W ⟨rfl, hO, hB⟩
 refine ⟨_, rfl, kz _ [.v (.int .i64 n), .v (.int .i64 way), .v (.int .i64 f.g.rad), .v (.int .i64 f.g.digs), .v (.int .i64 f.g.lo), .v (.int .i64 f.g.hi), .v (.bool f.g.grad), .v (.int .u8 (famB f)), .v (.int .i64 (fl : Int))] _ hO hB fun I => ?_⟩
 clear kz Kz
 refine zg I (fun Al W I => (HN W _ (I.box 0 139 _)).out) fun Al V Iv hzV hB Kz kz => ?_
 rintro _ W ⟨rfl, hb⟩
 refine ⟨_, rfl, kz _ _ hb fun I => ?_⟩
 clear kz Kz
 exact zret I fun Al W I => b0e hk rfl I.bel (I.boxE 139 _)

theorem d1d (f : Fm) (n way : Int) (x : Dv) (p : Option Addr) (c u : Nat) (w : World) (U : Bt w u 139 #[.int .i64 n, .int .i64 way, .int .i64 f.g.rad, .int .i64 f.g.digs, .int .i64 f.g.lo, .int .i64 f.g.hi, .bool f.g.grad, .int .u8 (famB f), .int .i64 0]) (hp : Rd w .u32 p (dig B32 x.m))
 (hl : (dig B32 x.m).length ≤ 100000) (he : -1000000 ≤ x.e ∧ x.e ≤ 1000000) (G : c0t f) (hw : 1 ≤ way ∧ way ≤ 5) :
 Calls Tryz.prog 94 #[.pointer (some ⟨u, 0, none⟩), .agg #[.bool x.neg, .slice p (dig B32 x.m).length c, .int .i64 x.e]] w (g0j f n way u w w.heap.size (f.numM x way)) := by
 have hs : b0f ⟨x.neg, x.m, x.e⟩ = b0f x := rfl
 have HS := fun W => Lib.hid (b0v x.neg p _ c x.e x.m W rfl)
 rw [hs] at HS
 have h0 := l0g x
 by_cases hx : x.m = 0
 · have hn : f.numM x way = (⟨1, false, vz⟩, 0) := by unfold Fm.numM Fm.zeroM; rw [if_pos hx]; simp
   rw [hn]
   have HZ := fun W u hU => Lib.hid (k0f f n way 0 false u W hU)
   rw [Bool.false_and] at HZ
   have hd := h0.2 hx
   generalize b0f x = sx at *
   have I := Inv.startW w u 139 [.v (.int .i64 n), .v (.int .i64 way), .v (.int .i64 f.g.rad), .v (.int .i64 f.g.digs), .v (.int .i64 f.g.lo), .v (.int .i64 f.g.hi), .v (.bool f.g.grad), .v (.int .u8 (famB f)), .v (.int .i64 0)] [rdF .u32 p (dig B32 x.m)] U ⟨hp, True.intro⟩ ⟨fun hf => hp.far U (by kernel_rfl) hf.1 hf.2, True.intro⟩
   refine a0b [.p 0 0, .v (.agg #[.bool x.neg, .slice p (dig B32 x.m).length c, .int .i64 x.e])] I Tryz.func94 ?_
   refine zg I (fun Al W I => (HS W).out) fun Al V Iv hzV hB Kz kz => ?_
   rintro _ W ⟨rfl, hb⟩
   refine ⟨_, rfl, kz _ _ hb fun I => ?_⟩
   clear kz Kz
   refine zb I 7 (sx == 0) (true) (beq_iff_eq.2 hd) fun Al W I => ?_
   refine zg I (fun Al W I => (HZ W _ (I.box 0 139 _)).out) fun Al V Iv hzV hB Kz kz => ?_
   rintro _ W ⟨rfl, hb⟩
   refine ⟨_, rfl, kz _ _ hb fun I => ?_⟩
   clear kz Kz
   exact zret I fun Al W I => b0e (k := 1) (by decide) rfl I.bel (I.boxE 139 _)
 · have hn : f.numM x way = f.placedM (a0w x.neg x.m 1 x.e f.g way) way := by unfold Fm.numM; rw [if_neg hx]
   rw [hn]
   have hd : b0f x ≠ 0 := fun h => hx (h0.1 h)
   have l1 : (dig B32 1).length ≤ 1 := by rw [a0h a0a]; unfold B32; omega
   have HF := fun p q c d u W U h1 h2 => Lib.hid (k1u f n way x.neg p q c d x.m 1 x.e u W U h1 h2 hl (by omega) (by omega) (by omega) he G hw)
   have HV := (n0m G (neg := x.neg) (num := x.m) (den := 1) (e := x.e) (way := way) (by omega)).2
   have hm : f.placedM (a0w x.neg x.m 1 x.e f.g way) way = ((f.placedM (a0w x.neg x.m 1 x.e f.g way) way).1, (f.placedM (a0w x.neg x.m 1 x.e f.g way) way).2) := rfl
   rw [hm]
   generalize (f.placedM (a0w x.neg x.m 1 x.e f.g way) way).1 = r at *
   generalize (f.placedM (a0w x.neg x.m 1 x.e f.g way) way).2 = fl at *
   generalize f.placedV (a0w x.neg x.m 1 x.e f.g way) way = v at *
   generalize b0f x = sx at *
   have I := Inv.startW w u 139 [.v (.int .i64 n), .v (.int .i64 way), .v (.int .i64 f.g.rad), .v (.int .i64 f.g.digs), .v (.int .i64 f.g.lo), .v (.int .i64 f.g.hi), .v (.bool f.g.grad), .v (.int .u8 (famB f)), .v (.int .i64 0)] [rdF .u32 p (dig B32 x.m)] U ⟨hp, True.intro⟩ ⟨fun hf => hp.far U (by kernel_rfl) hf.1 hf.2, True.intro⟩
   refine a0b [.p 0 0, .v (.agg #[.bool x.neg, .slice p (dig B32 x.m).length c, .int .i64 x.e])] I Tryz.func94 ?_
   refine zg I (fun Al W I => (HS W).out) fun Al V Iv hzV hB Kz kz => ?_
   rintro _ W ⟨rfl, hb⟩
   refine ⟨_, rfl, kz _ _ hb fun I => ?_⟩
   clear kz Kz
   refine zb I 7 (sx == 0) (false) (beq_eq_false_iff_ne.2 hd) fun Al W I => ?_
   refine zd [0, 2] I fun Al W I => ?_
   refine zk [0, 1, 2, 3, 4, 5, 6, 8, 9, 10] I fun I => ?_
   refine zo 7 I (fun I => ?_)
   refine zg I (fun Al W I => have hzW := I.bel.size; sof 1 1 rfl (by omega) W) fun Al V Iv hzV hB Kz kz => ?_
   rintro _ W ⟨p17, c17, rfl, o17, hb⟩
   refine ⟨_, rfl, kz _ _ hb fun I => ?_⟩
   clear kz Kz
   have I := I.own o17
   refine zk [11] I fun I => ?_
   refine zo 12 I (fun I => ?_)
   refine zge I 0 139 (fun Al W I => (HF p p17 c c17 _ W (I.box 0 139 _) I.fa.2.1 I.fa.1.rd).out) fun Al V Iv hzV Kz kz => ?_
   rintro _ W ⟨p22, c22, rfl, o22, hO, hB⟩
   refine ⟨_, rfl, kz _ [.v (.int .i64 n), .v (.int .i64 way), .v (.int .i64 f.g.rad), .v (.int .i64 f.g.digs), .v (.int .i64 f.g.lo), .v (.int .i64 f.g.hi), .v (.bool f.g.grad), .v (.int .u8 (famB f)), .v (.int .i64 (fl : Int))] _ hO hB fun I => ?_⟩
   clear kz Kz
   have I := I.own o22
   refine zo 13 I (fun I => ?_)
   refine zn I fun Al W I => ?_
   exact zret I fun Al W I => ⟨v, HV, p22, c22, rfl, I.fa.1.mono (by omega), I.bel, I.boxE 139 _⟩

structure Vp where
 v : Vl
 p : Option Addr
 c : Nat
def Vp.cells (x : Vp) : List Value := [.int .i64 (x.v.cls : Int), .bool x.v.neg, .slice x.p (dig B32 x.v.d).length x.c, .int .i64 x.v.pow]
theorem Vp.len (x : Vp) : x.cells.length = 4 := rfl
theorem e0t : v0y Tryz.prog 68 70 4 48 := u0j (z := .agg #[.int .i64 0, .bool false, .slice none 0 0, .int .i64 0]) (by kernel_rfl) (by kernel_rfl) (by kernel_rfl) (by kernel_rfl) (by kernel_rfl)
theorem f0y : d0p Tryz.prog 70 4 := c0h (by kernel_rfl) (by kernel_rfl)

theorem j1g (f : Fm) (n way fl : Int) (xs : List Vp) (b m u : Nat) (w : World) (U : Bt w u 139 #[.int .i64 n, .int .i64 way, .int .i64 f.g.rad, .int .i64 f.g.digs, .int .i64 f.g.lo, .int .i64 f.g.hi, .bool f.g.grad, .int .u8 (famB f), .int .i64 fl]) (hB : Bt w b 70 (xs.flatMap Vp.cells).toArray) (hm : m = xs.length) (hl : xs.length ≤ 1000) (hno : ∀ x ∈ xs, x.v.cls < 4) :
 Calls Tryz.prog 68 #[.pointer (some ⟨u, 0, none⟩), .slice (some ⟨b, 0, none⟩) m m] w fun en w' => en = .returned (.tuple #[.agg #[.int .i64 0, .bool false, .slice none 0 0, .int .i64 0], .bool false]) ∧ Below w.heap.size w w' := by
 subst hm
 have HX : ∀ i, i < xs.length → ∃ x : Vp, xs[i]? = some x ∧ x.v.cls < 4 := fun i h => ⟨xs[i], List.getElem?_eq_getElem h, hno _ (List.getElem_mem h)⟩
 have I := Inv.startR w [u] [⟨139, [.v (.int .i64 n), .v (.int .i64 way), .v (.int .i64 f.g.rad), .v (.int .i64 f.g.digs), .v (.int .i64 f.g.lo), .v (.int .i64 f.g.hi), .v (.bool f.g.grad), .v (.int .u8 (famB f)), .v (.int .i64 fl)], true⟩] [btF b 70 (xs.flatMap Vp.cells).toArray] ⟨U, True.intro⟩ ⟨hB, True.intro⟩
 refine a0b [.p 0 0, .v (.slice (some ⟨b, 0, none⟩) xs.length xs.length)] I Tryz.func68 ?_
 refine q0j I (fun gk fr bx gs => ∃ (U900 : Nat → Value) (i : Nat), fr = (.p 0 0 :: .v (.slice (some ⟨b, 0, none⟩) xs.length xs.length) :: su 2 (.p 1 0 :: .v (U900 5) :: .v undef :: .v (U900 7) :: .v (.slice (some ⟨b, 0, none⟩) xs.length xs.length) :: .v (.int .i64 (xs.length : Int)) :: .v (.int .i64 (i : Int)) :: sw U900 11 16 []) : List SV) ∧ bx = [⟨139, [.v (.int .i64 n), .v (.int .i64 way), .v (.int .i64 f.g.rad), .v (.int .i64 f.g.digs), .v (.int .i64 f.g.lo), .v (.int .i64 f.g.hi), .v (.bool f.g.grad), .v (.int .u8 (famB f)), .v (.int .i64 fl)], true⟩, ⟨70, [.v (.int .i64 0), .v (.bool false), .v (.slice none 0 0), .v (.int .i64 0)], false⟩] ∧ gs = [btF b 70 (xs.flatMap Vp.cells).toArray] ∧ (gk + i = xs.length)) xs.length (fun Al W U I => ⟨_, ⟨U, 0, rfl, rfl, rfl, (by omega)⟩, I.pick [0]⟩) ?_
 rintro J gk0 _ _ _ ⟨U900, i, rfl, rfl, rfl, hgk⟩ hJ Al W I
 rcases Bool.eq_false_or_eq_true (decide ((i : Int) < (xs.length : Int))) with f11 | f11
 · refine zb I 11 (decide ((i : Int) < (xs.length : Int))) (true) (f11) fun Al W I => ?_
   obtain ⟨x, hx, hx4⟩ := HX i (by have := of_decide_eq_true f11; omega)
   refine zx I 12 (fun _ => .pointer (some (at_ (some ⟨b, 0, none⟩) (i * 4)))) (fun Al W I => (c0e (m := i) (n := xs.length) (c := xs.length) e0t (fun _ => ⟨rfl, rfl⟩) (by have := of_decide_eq_true f11; omega))) fun Al W I => ?_
   refine zx I 13 (fun _ => .agg #[.int .i64 (x.v.cls : Int), .bool x.v.neg, .slice x.p (dig B32 x.v.d).length x.c, .int .i64 x.v.pow]) (fun Al W I => (e1h I.fa.1 f0y x.cells (t0a Vp.len hx) rfl)) fun Al W I => ?_
   refine zg I (fun Al W I => d0j x.v.cls x.v.neg x.p (dig B32 x.v.d).length x.c x.v.pow W) fun Al V Iv hzV hB Kz kz => ?_
   rintro _ W ⟨rfl, hb⟩
   refine ⟨_, congrArg (fun b => Ending.returned (.bool b)) (show (decide (x.v.cls = 4) || decide (x.v.cls = 5)) = false from (by rw [decide_eq_false (by omega), decide_eq_false (by omega)]; rfl)), kz _ _ hb fun I => ?_⟩
   clear kz Kz
   refine zi I 25 .i64 ((i : Int) + 1) (((i + 1 : Nat) : Int)) ((by rw [show ((i : Int) + 1) = ((i + 1 : Nat) : Int) by omega]; exact IntWalk.i64_in _ (by have := of_decide_eq_true f11; omega))) fun Al W I => ?_
   exact n0n 2 I J fun Al W U I => hJ (gk0 - 1) _ _ _ _ _ ((by have := of_decide_eq_true f11; omega)) ⟨U, i + 1, rfl, rfl, rfl, (by have := of_decide_eq_true f11; omega)⟩ (I.pick [0])
 refine zb I 11 (decide ((i : Int) < (xs.length : Int))) (false) (f11) fun Al W I => ?_
 exact zret I fun Al W I => ⟨rfl, I.below⟩

theorem g1q (f : Fm) (n way : Int) (xs : List Vp) (b m u : Nat) (w : World) (U : Bt w u 139 #[.int .i64 n, .int .i64 way, .int .i64 f.g.rad, .int .i64 f.g.digs, .int .i64 f.g.lo, .int .i64 f.g.hi, .bool f.g.grad, .int .u8 (famB f), .int .i64 0]) (hB : Bt w b 70 (xs.flatMap Vp.cells).toArray) (hm : m = xs.length) (hl : xs.length ≤ 1000) (hc : ∀ x ∈ xs, x.v.cls ≤ 5) (G : c0t f) (hyes : ∃ x ∈ xs, 4 ≤ x.v.cls) :
 Calls Tryz.prog 68 #[.pointer (some ⟨u, 0, none⟩), .slice (some ⟨b, 0, none⟩) m m] w fun en w' => en = .returned (.tuple #[.agg #[.int .i64 (f.nothM.cls : Int), .bool false, .slice none 0 0, .int .i64 0], .bool true]) ∧ Kp [u] w w' ∧ Bt w' u 139 #[.int .i64 n, .int .i64 way, .int .i64 f.g.rad, .int .i64 f.g.digs, .int .i64 f.g.lo, .int .i64 f.g.hi, .bool f.g.grad, .int .u8 (famB f), .int .i64 ((f.offM.2 : Nat) : Int)] := by
 subst hm
 have HX : ∀ i, i < xs.length → ∃ x : Vp, xs[i]? = some x ∧ x.v.cls ≤ 5 := fun i h => ⟨xs[i], List.getElem?_eq_getElem h, hc _ (List.getElem_mem h)⟩
 obtain ⟨y, hy, hy4⟩ := hyes
 obtain ⟨j, hj, hjy⟩ := List.getElem_of_mem hy
 have hYJ : xs[j]? = some y := by rw [List.getElem?_eq_getElem hj, hjy]
 clear hjy hy hc
 have HN := fun fl W u hU => Lib.hid (m0j f n way fl u W hU)
 have HR := fun W u hU => Lib.hid (b0o f n way 0 16 16 u W hU (by decide +kernel))
 have e2 : f.fam = 3 → ((f.offM.2 : Nat) : Int) = 16 ∧ famB f = 67 := fun h => ⟨by unfold Fm.offM; rw [if_pos h]; rfl, by unfold famB; rw [if_neg (by omega), if_neg (by omega)]⟩
 have e3 : f.fam ≠ 3 → ((f.offM.2 : Nat) : Int) = 0 := fun h => by unfold Fm.offM; rw [if_neg h]; rfl
 have e4 : f.fam ≠ 3 → famB f ≠ 67 := fun h => by have := G.fam; unfold famB; split; decide; rw [if_pos (by omega)]; decide
 generalize ((f.offM.2 : Nat) : Int) = fl at *
 generalize f.nothM.cls = kN at *
 have I := Inv.startW w u 139 [.v (.int .i64 n), .v (.int .i64 way), .v (.int .i64 f.g.rad), .v (.int .i64 f.g.digs), .v (.int .i64 f.g.lo), .v (.int .i64 f.g.hi), .v (.bool f.g.grad), .v (.int .u8 (famB f)), .v (.int .i64 0)] [btF b 70 (xs.flatMap Vp.cells).toArray] U ⟨hB, True.intro⟩ ⟨fun hf => hB.far U (by kernel_rfl) hf, True.intro⟩
 refine a0b [.p 0 0, .v (.slice (some ⟨b, 0, none⟩) xs.length xs.length)] I Tryz.func68 ?_
 refine q0j I (fun gk fr bx gs => ∃ (U900 : Nat → Value) (i : Nat), fr = (.p 0 0 :: .v (.slice (some ⟨b, 0, none⟩) xs.length xs.length) :: su 2 (.p 1 0 :: .v (U900 5) :: .v undef :: .v (U900 7) :: .v (.slice (some ⟨b, 0, none⟩) xs.length xs.length) :: .v (.int .i64 (xs.length : Int)) :: .v (.int .i64 (i : Int)) :: sw U900 11 16 []) : List SV) ∧ bx = [⟨139, [.v (.int .i64 n), .v (.int .i64 way), .v (.int .i64 f.g.rad), .v (.int .i64 f.g.digs), .v (.int .i64 f.g.lo), .v (.int .i64 f.g.hi), .v (.bool f.g.grad), .v (.int .u8 (famB f)), .v (.int .i64 0)], false⟩, ⟨70, [.v (.int .i64 0), .v (.bool false), .v (.slice none 0 0), .v (.int .i64 0)], false⟩] ∧ gs = [btF b 70 (xs.flatMap Vp.cells).toArray] ∧ (gk + i = xs.length) ∧ (∀ (j : Nat) (x : Vp), j < i → xs[j]? = some x → x.v.cls < 4)) xs.length (fun Al W U I => ⟨_, ⟨U, 0, rfl, rfl, rfl, (by omega), (fun _ _ h => absurd h (by omega))⟩, I.pick [0]⟩) ?_
 rintro J gk0 _ _ _ ⟨U900, i, rfl, rfl, rfl, hgk, hlt⟩ hJ Al W I
 rcases Bool.eq_false_or_eq_true (decide ((i : Int) < (xs.length : Int))) with f11 | f11
 · refine zb I 11 (decide ((i : Int) < (xs.length : Int))) (true) (f11) fun Al W I => ?_
   obtain ⟨x, hx, hx5⟩ := HX i (by have := of_decide_eq_true f11; omega)
   refine zx I 12 (fun _ => .pointer (some (at_ (some ⟨b, 0, none⟩) (i * 4)))) (fun Al W I => (c0e (m := i) (n := xs.length) (c := xs.length) e0t (fun _ => ⟨rfl, rfl⟩) (by have := of_decide_eq_true f11; omega))) fun Al W I => ?_
   refine zx I 13 (fun _ => .agg #[.int .i64 (x.v.cls : Int), .bool x.v.neg, .slice x.p (dig B32 x.v.d).length x.c, .int .i64 x.v.pow]) (fun Al W I => (e1h I.fa.1 f0y x.cells (t0a Vp.len hx) rfl)) fun Al W I => ?_
   by_cases hof : 4 ≤ x.v.cls
   · refine zg I (fun Al W I => d0j x.v.cls x.v.neg x.p (dig B32 x.v.d).length x.c x.v.pow W) fun Al V Iv hzV hB Kz kz => ?_
     rintro _ W ⟨rfl, hb⟩
     refine ⟨_, congrArg (fun b => Ending.returned (.bool b)) (show (decide (x.v.cls = 4) || decide (x.v.cls = 5)) = true from (by rcases (show x.v.cls = 4 ∨ x.v.cls = 5 by omega) with h | h <;> rw [h] <;> rfl)), kz _ _ hb fun I => ?_⟩
     clear kz Kz
     by_cases hf3 : f.fam = 3
     · refine zb I 20 ((famB f) == 67) (true) (beq_iff_eq.2 (e2 hf3).2) fun Al W I => ?_
       refine zge I 0 139 (fun Al W I => (HR W _ (I.box 0 139 _)).out) fun Al V Iv hzV Kz kz => ?_
       rintro _ W ⟨rfl, hO, hB⟩
       refine ⟨_, rfl, kz _ [.v (.int .i64 n), .v (.int .i64 way), .v (.int .i64 f.g.rad), .v (.int .i64 f.g.digs), .v (.int .i64 f.g.lo), .v (.int .i64 f.g.hi), .v (.bool f.g.grad), .v (.int .u8 (famB f)), .v (.int .i64 16)] _ hO hB fun I => ?_⟩
       clear kz Kz
       refine zg I (fun Al W I => (HN 16 W _ (I.box 0 139 _)).out) fun Al V Iv hzV hB Kz kz => ?_
       rintro _ W ⟨rfl, hb⟩
       refine ⟨_, rfl, kz _ _ hb fun I => ?_⟩
       clear kz Kz
       refine zret I (v := fun Al => .tuple #[.agg #[.int .i64 (kN : Int), .bool false, .slice none 0 0, .int .i64 0], .bool true]) fun Al W I => ?_
       first | exact ⟨rfl, I.bel, by rw [(e2 hf3).1]; exact I.boxE 139 _⟩ | exact ⟨rfl, I.bel, by rw [e3 hf3]; exact I.boxE 139 _⟩
     refine zb I 20 ((famB f) == 67) (false) (beq_eq_false_iff_ne.2 (e4 hf3)) fun Al W I => ?_
     refine zg I (fun Al W I => (HN 0 W _ (I.box 0 139 _)).out) fun Al V Iv hzV hB Kz kz => ?_
     rintro _ W ⟨rfl, hb⟩
     refine ⟨_, rfl, kz _ _ hb fun I => ?_⟩
     clear kz Kz
     refine zret I (v := fun Al => .tuple #[.agg #[.int .i64 (kN : Int), .bool false, .slice none 0 0, .int .i64 0], .bool true]) fun Al W I => ?_
     first | exact ⟨rfl, I.bel, by rw [(e2 hf3).1]; exact I.boxE 139 _⟩ | exact ⟨rfl, I.bel, by rw [e3 hf3]; exact I.boxE 139 _⟩
   refine zg I (fun Al W I => d0j x.v.cls x.v.neg x.p (dig B32 x.v.d).length x.c x.v.pow W) fun Al V Iv hzV hB Kz kz => ?_
   rintro _ W ⟨rfl, hb⟩
   refine ⟨_, congrArg (fun b => Ending.returned (.bool b)) (show (decide (x.v.cls = 4) || decide (x.v.cls = 5)) = false from (by rw [decide_eq_false (by omega), decide_eq_false (by omega)]; rfl)), kz _ _ hb fun I => ?_⟩
   clear kz Kz
   refine zi I 25 .i64 ((i : Int) + 1) (((i + 1 : Nat) : Int)) ((by rw [show ((i : Int) + 1) = ((i + 1 : Nat) : Int) by omega]; exact IntWalk.i64_in _ (by have := of_decide_eq_true f11; omega))) fun Al W I => ?_
   exact n0n 2 I J fun Al W U I => hJ (gk0 - 1) _ _ _ _ _ ((by have := of_decide_eq_true f11; omega)) ⟨U, i + 1, rfl, rfl, rfl, (by have := of_decide_eq_true f11; omega), (fun j' x' h h' => by rcases (show j' < i ∨ j' = i by omega) with q | rfl; exact hlt j' x' q h'; rw [hx] at h'; cases h'; omega)⟩ (I.pick [0])
 refine zb I 11 (decide ((i : Int) < (xs.length : Int))) (false) (f11) fun Al W I => ?_
 exact zret I (v := fun Al => .tuple #[.agg #[.int .i64 0, .bool false, .slice none 0 0, .int .i64 0], .bool false]) fun Al W I => absurd (hlt j y (by have := of_decide_eq_false f11; omega) hYJ) (by rw [Nat.not_lt]; omega)

theorem a1d (x y : Dv) (p q : Option Addr) (c d base : Nat) (w : World) (hx : Bare x) (hy : Bare y) (sx : SmD x) (sy : SmD y) (hp : Own w base .u32 160 p c (dig B32 x.m)) (hq : Own w base .u32 160 q d (dig B32 y.m)) (hT : TabW w) (hb : base ≤ w.heap.size) :
 Calls Tryz.prog 115 #[.agg #[.bool x.neg, .slice p (dig B32 x.m).length c, .int .i64 x.e], .agg #[.bool y.neg, .slice q (dig B32 y.m).length d, .int .i64 y.e]] w (f0p w base (g0e x y)) := by
 have h1 := sx.len
 have h2 := sy.len
 have h3 := sx.lo
 have h4 := sx.hi
 have h5 := sy.lo
 have h6 := sy.hi
 have := x0i x.neg y.neg p q _ c _ d base x.e y.e x.m y.m w hp hq rfl rfl (by omega) (by omega) (by omega) (by omega) hT hb
 rw [show (⟨x.neg, x.m, x.e⟩ : Dv) = x from rfl, show (⟨y.neg, y.m, y.e⟩ : Dv) = y from rfl, n0y hx hy] at this
 exact this

theorem k1v (f : Fm) (n way : Int) (x y : Dv) (g h : Bool) (p q : Option Addr) (c d base u : Nat) (w : World) (U : Bt w u 139 #[.int .i64 n, .int .i64 way, .int .i64 f.g.rad, .int .i64 f.g.digs, .int .i64 f.g.lo, .int .i64 f.g.hi, .bool f.g.grad, .int .u8 (famB f), .int .i64 0]) (hp : Own w base .u32 160 p c (dig B32 x.m)) (hq : Own w base .u32 160 q d (dig B32 y.m)) (hb : base ≤ w.heap.size)
 (hx : Bare x) (hy : Bare y) (sx : SmD x) (sy : SmD y) (G : c0t f) (hw : 1 ≤ way ∧ way ≤ 5) (hT : TabW w) :
 Calls Tryz.prog 71 #[.pointer (some ⟨u, 0, none⟩), .agg #[.bool x.neg, .slice p (dig B32 x.m).length c, .int .i64 x.e], .agg #[.bool y.neg, .slice q (dig B32 y.m).length d, .int .i64 y.e], .bool g, .bool h] w (g0j f n way u w w.heap.size (f.sumM x y g h way)) := by
 have HP := fun W h1 h2 h3 h4 => Lib.hid (a1d x y p q c d base W hx hy sx sy h1 h2 h3 h4)
 have hbd := c1d sx.len sy.len sx.lo sx.hi sy.lo sy.hi
 rw [n0y hx hy] at hbd
 have hS1 : (g0e x y).m ≠ 0 → f.sumM x y g h way = f.numM (g0e x y) way := fun k => by unfold Fm.sumM; rw [if_pos k]
 have hS2 : (g0e x y).m = 0 → x.m = 0 ∧ g = h → f.sumM x y g h way = (f.zeroM g, 0) := fun k k' => by unfold Fm.sumM; rw [if_neg (fun h => h k), if_pos k']
 have hS3 : (g0e x y).m = 0 → ¬ (x.m = 0 ∧ g = h) → f.sumM x y g h way = (f.zeroM (decide (way = 5)), 0) := fun k k' => by unfold Fm.sumM; rw [if_neg (fun h => h k), if_neg k']
 generalize g0e x y = s at *
 generalize f.sumM x y g h way = R at *
 have HN := fun W u (p : Option Addr) (c : Nat) hU h1 => Lib.hid (d1d f n way s p c u W hU h1 (by omega) (by omega) G hw)
 have HS := fun (W : World) (p : Option Addr) (c : Nat) => Lib.hid (b0v s.neg p _ c s.e s.m W rfl)
 have HX := fun (W : World) => Lib.hid (b0v x.neg p _ c x.e x.m W rfl)
 have HZ := fun g W u hU => Lib.hid (k0f f n way 0 g u W hU)
 rw [show (⟨s.neg, s.m, s.e⟩ : Dv) = s from rfl] at HS
 rw [show (⟨x.neg, x.m, x.e⟩ : Dv) = x from rfl] at HX
 have hs0 := l0g s
 have hx0 := l0g x
 generalize b0f s = ss at *
 generalize b0f x = xs at *
 obtain ⟨rN, flN, hN⟩ : ∃ rN flN, f.numM s way = (rN, flN) := ⟨_, _, rfl⟩
 rw [hN] at HN hS1
 clear hN
 have I := Inv.startW w u 139 [.v (.int .i64 n), .v (.int .i64 way), .v (.int .i64 f.g.rad), .v (.int .i64 f.g.digs), .v (.int .i64 f.g.lo), .v (.int .i64 f.g.hi), .v (.bool f.g.grad), .v (.int .u8 (famB f)), .v (.int .i64 0)] [ownF base .u32 160 p c (dig B32 x.m), ownF base .u32 160 q d (dig B32 y.m), tabF] U ⟨hp, hq, hT, True.intro⟩ ⟨fun hf => hp.far U (by kernel_rfl) hf.1 hf.2, fun hf => hq.far U (by kernel_rfl) hf.1 hf.2, fun hf => hT.far U (by kernel_rfl) hf, True.intro⟩
 refine a0b [.p 0 0, .v (.agg #[.bool x.neg, .slice p (dig B32 x.m).length c, .int .i64 x.e]), .v (.agg #[.bool y.neg, .slice q (dig B32 y.m).length d, .int .i64 y.e]), .v (.bool g), .v (.bool h)] I Tryz.func71 ?_
 refine zg I (fun Al W I => have hzW := I.bel.size; (HP W I.fa.1 I.fa.2.1 I.fa.2.2.1 (by omega)).out) fun Al V Iv hzV hB Kz kz => ?_
 rintro _ W ⟨p14, c14, rfl, o14, hb⟩
 refine ⟨_, rfl, kz _ _ hb fun I => ?_⟩
 clear kz Kz
 have I := I.ownB base o14
 by_cases hs : s.m = 0
 · refine zg I (fun Al W I => (HS W p14 c14).out) fun Al V Iv hzV hB Kz kz => ?_
   rintro _ W ⟨rfl, hb⟩
   refine ⟨_, rfl, kz _ _ hb fun I => ?_⟩
   clear kz Kz
   refine zb I 17 (ss != 0) (false) (bne_eq_false_iff_eq.2 (hs0.2 hs)) fun Al W I => ?_
   by_cases hx1 : x.m = 0
   · by_cases hgh : g = h
     · refine zg I (fun Al W I => (HX W).out) fun Al V Iv hzV hB Kz kz => ?_
       rintro _ W ⟨rfl, hb⟩
       refine ⟨_, rfl, kz _ _ hb fun I => ?_⟩
       clear kz Kz
       refine zb I 23 (xs == 0) (true) (beq_iff_eq.2 (hx0.2 hx1)) fun Al W I => ?_
       refine zb I 27 (g == h) (true) ((by rw [hgh]; exact beq_self_eq_true h)) fun Al W I => ?_
       refine zg I (fun Al W I => (HZ g W _ (I.box 0 139 _)).out) fun Al V Iv hzV hB Kz kz => ?_
       rintro _ W ⟨rfl, hb⟩
       refine ⟨_, rfl, kz _ _ hb fun I => ?_⟩
       clear kz Kz
       rw [hS2 hs ⟨hx1, hgh⟩]
       exact zret I fun Al W I => b0e (k := 1) (by decide) rfl I.bel (I.boxE 139 _)
     refine zg I (fun Al W I => (HX W).out) fun Al V Iv hzV hB Kz kz => ?_
     rintro _ W ⟨rfl, hb⟩
     refine ⟨_, rfl, kz _ _ hb fun I => ?_⟩
     clear kz Kz
     refine zb I 23 (xs == 0) (true) (beq_iff_eq.2 (hx0.2 hx1)) fun Al W I => ?_
     refine zb I 27 (g == h) (false) (beq_eq_false_iff_ne.2 hgh) fun Al W I => ?_
     refine zb I 37 (way == 5) ((decide (way = 5))) (rfl) fun Al W I => ?_
     refine zg I (fun Al W I => (HZ (decide (way = 5)) W _ (I.box 0 139 _)).out) fun Al V Iv hzV hB Kz kz => ?_
     rintro _ W ⟨rfl, hb⟩
     refine ⟨_, rfl, kz _ _ hb fun I => ?_⟩
     clear kz Kz
     rw [hS3 hs (fun k => by first | exact hx1 k.1 | exact hgh k.2)]
     exact zret I fun Al W I => b0e (k := 1) (by decide) rfl I.bel (I.boxE 139 _)
   by_cases hgh : g = h
   · refine zg I (fun Al W I => (HX W).out) fun Al V Iv hzV hB Kz kz => ?_
     rintro _ W ⟨rfl, hb⟩
     refine ⟨_, rfl, kz _ _ hb fun I => ?_⟩
     clear kz Kz
     refine zb I 23 (xs == 0) (false) (beq_eq_false_iff_ne.2 (fun k => hx1 (hx0.1 k))) fun Al W I => ?_
     refine zb I 37 (way == 5) ((decide (way = 5))) (rfl) fun Al W I => ?_
     refine zg I (fun Al W I => (HZ (decide (way = 5)) W _ (I.box 0 139 _)).out) fun Al V Iv hzV hB Kz kz => ?_
     rintro _ W ⟨rfl, hb⟩
     refine ⟨_, rfl, kz _ _ hb fun I => ?_⟩
     clear kz Kz
     rw [hS3 hs (fun k => by first | exact hx1 k.1 | exact hgh k.2)]
     exact zret I fun Al W I => b0e (k := 1) (by decide) rfl I.bel (I.boxE 139 _)
   refine zg I (fun Al W I => (HX W).out) fun Al V Iv hzV hB Kz kz => ?_
   rintro _ W ⟨rfl, hb⟩
   refine ⟨_, rfl, kz _ _ hb fun I => ?_⟩
   clear kz Kz
   refine zb I 23 (xs == 0) (false) (beq_eq_false_iff_ne.2 (fun k => hx1 (hx0.1 k))) fun Al W I => ?_
   refine zb I 37 (way == 5) ((decide (way = 5))) (rfl) fun Al W I => ?_
   refine zg I (fun Al W I => (HZ (decide (way = 5)) W _ (I.box 0 139 _)).out) fun Al V Iv hzV hB Kz kz => ?_
   rintro _ W ⟨rfl, hb⟩
   refine ⟨_, rfl, kz _ _ hb fun I => ?_⟩
   clear kz Kz
   rw [hS3 hs (fun k => by first | exact hx1 k.1 | exact hgh k.2)]
   exact zret I fun Al W I => b0e (k := 1) (by decide) rfl I.bel (I.boxE 139 _)
 refine zg I (fun Al W I => (HS W p14 c14).out) fun Al V Iv hzV hB Kz kz => ?_
 rintro _ W ⟨rfl, hb⟩
 refine ⟨_, rfl, kz _ _ hb fun I => ?_⟩
 clear kz Kz
 refine zb I 17 (ss != 0) (true) (bne_iff_ne.2 (fun k => hs (hs0.1 k))) fun Al W I => ?_
 refine zge I 0 139 (fun Al W I => (HN W _ p14 c14 (I.box 0 139 _) I.fa.1.rd).out) fun Al V Iv hzV Kz kz => ?_
 rintro _ W ⟨v20, hR20, p20, c20, rfl, o20, hO, hB⟩
 refine ⟨_, rfl, kz _ [.v (.int .i64 n), .v (.int .i64 way), .v (.int .i64 f.g.rad), .v (.int .i64 f.g.digs), .v (.int .i64 f.g.lo), .v (.int .i64 f.g.hi), .v (.bool f.g.grad), .v (.int .u8 (famB f)), .v (.int .i64 (flN : Int))] _ hO hB fun I => ?_⟩
 clear kz Kz
 have I := I.own o20
 rw [hS1 hs]
 exact zret I fun Al W I => ⟨v20, hR20, p20, c20, rfl, I.fa.1, I.bel, I.boxE 139 _⟩

structure AtV (f : Fm) (a : Vp) (r : Vr) : Prop where
 rep : VRep f a.v r
 ok : VrOk r
 inf : r.cls = 3 → f.fam = 1
theorem VrOk.sm {r : Vr} (R : VrOk r) : SmD r.x := ⟨by have := R.len; omega, by have := R.lo; omega, by have := R.hi; omega⟩
def two (a b : Vp) : List Vp := [a, b]

theorem k1w (f : Fm) (n way : Int) (a b : Vp) (ra rb : Vr) (base u : Nat) (w : World) (U : Bt w u 139 #[.int .i64 n, .int .i64 way, .int .i64 f.g.rad, .int .i64 f.g.digs, .int .i64 f.g.lo, .int .i64 f.g.hi, .bool f.g.grad, .int .u8 (famB f), .int .i64 0]) (oa : Own w base .u32 160 a.p a.c (dig B32 a.v.d)) (ob : Own w base .u32 160 b.p b.c (dig B32 b.v.d)) (hb : base ≤ w.heap.size)
 (A1 : AtV f a ra) (B1 : AtV f b rb) (G : c0t f) (hw : 1 ≤ way ∧ way ≤ 5) (hT : TabW w) :
 Calls Tryz.prog 34 #[.pointer (some ⟨u, 0, none⟩), .agg #[.int .i64 (a.v.cls : Int), .bool a.v.neg, .slice a.p (dig B32 a.v.d).length a.c, .int .i64 a.v.pow], .agg #[.int .i64 (b.v.cls : Int), .bool b.v.neg, .slice b.p (dig B32 b.v.d).length b.c, .int .i64 b.v.pow]] w (g0j f n way u w base (f.addM ra rb way)) := by
 have hM : f.addM ra rb way = if 4 ≤ a.v.cls ∨ 4 ≤ b.v.cls then f.offM else if a.v.cls = 3 ∨ b.v.cls = 3 then (if a.v.cls = b.v.cls ∧ a.v.neg ≠ b.v.neg then f.lostM else if a.v.cls = 3 then (ra, 0) else (rb, 0)) else f.sumM ra.x rb.x a.v.neg b.v.neg way := by
  unfold Fm.addM; rw [A1.rep.cls, B1.rep.cls, A1.rep.neg, B1.rep.neg]
 have hca : a.v.cls ≤ 5 := by rw [A1.rep.cls]; exact A1.ok.c.2
 have hcb : b.v.cls ≤ 5 := by rw [B1.rep.cls]; exact B1.ok.c.2
 have HY := fun W b0 u h1 h2 h3 => Lib.hid (g1q f n way [a, b] b0 2 u W h1 h2 rfl (by simp) (by simp [hca, hcb]) G h3)
 have HN := fun W b0 u h1 h2 h3 => Lib.hid (j1g f n way 0 [a, b] b0 2 u W h1 h2 rfl (by simp) h3)
 have HL := fun W u h1 => Lib.hid (j1f f n way u W h1 16 16 (by decide +kernel))
 have HA := fun W u h1 h2 h3 => Lib.hid (d1c f n way 0 a.v ra a.p a.c base u W h1 h2 A1.rep A1.ok h3)
 have HB := fun W u h1 h2 h3 => Lib.hid (d1c f n way 0 b.v rb b.p b.c base u W h1 h2 B1.rep B1.ok h3)
 have HS := fun W p q c d base u h1 h2 h3 h4 h5 => Lib.hid (k1v f n way ra.x rb.x a.v.neg b.v.neg p q c d base u W h1 h2 h3 h4 A1.ok.bare B1.ok.bare A1.ok.sm B1.ok.sm G hw h5)
 have hoffm : f.offM = (⟨f.nothM.cls, false, vz⟩, f.offM.2) := rfl
 have hk2 := r0h G
 have hlostm : f.lostM = (f.nothM, 16) := rfl
 have VA := A1.rep
 have VB := B1.rep
 obtain ⟨rS, flS, hS⟩ : ∃ rS flS, f.sumM ra.x rb.x a.v.neg b.v.neg way = (rS, flS) := ⟨_, _, rfl⟩
 rw [hS] at HS hM
 generalize f.addM ra rb way = R at *
 generalize f.offM.2 = flo at *
 generalize f.nothM.cls = kN at *
 generalize f.nothM = rN at *
 have I := Inv.startW w u 139 [.v (.int .i64 n), .v (.int .i64 way), .v (.int .i64 f.g.rad), .v (.int .i64 f.g.digs), .v (.int .i64 f.g.lo), .v (.int .i64 f.g.hi), .v (.bool f.g.grad), .v (.int .u8 (famB f)), .v (.int .i64 0)] [ownF base .u32 160 a.p a.c (dig B32 a.v.d), ownF base .u32 160 b.p b.c (dig B32 b.v.d), tabF] U ⟨oa, ob, hT, True.intro⟩ ⟨fun hf => oa.far U (by kernel_rfl) hf.1 hf.2, fun hf => ob.far U (by kernel_rfl) hf.1 hf.2, fun hf => hT.far U (by kernel_rfl) hf, True.intro⟩
 refine a0b [.p 0 0, .v (.agg #[.int .i64 (a.v.cls : Int), .bool a.v.neg, .slice a.p (dig B32 a.v.d).length a.c, .int .i64 a.v.pow]), .v (.agg #[.int .i64 (b.v.cls : Int), .bool b.v.neg, .slice b.p (dig B32 b.v.d).length b.c, .int .i64 b.v.pow])] I Tryz.func34 ?_
 by_cases hof : 4 ≤ a.v.cls ∨ 4 ≤ b.v.cls
 · refine zge I 0 139 (fun Al W I => (HY W _ _ (I.box 0 139 _) (I.box 4 70 _) (by simpa using hof)).out) fun Al V Iv hzV Kz kz => ?_
   rintro _ W ⟨rfl, hO, hB⟩
   refine ⟨_, rfl, kz _ [.v (.int .i64 n), .v (.int .i64 way), .v (.int .i64 f.g.rad), .v (.int .i64 f.g.digs), .v (.int .i64 f.g.lo), .v (.int .i64 f.g.hi), .v (.bool f.g.grad), .v (.int .u8 (famB f)), .v (.int .i64 (flo : Int))] _ hO hB fun I => ?_⟩
   clear kz Kz
   rw [hM]
   refine zret I (v := fun Al => .agg #[.int .i64 (kN : Int), .bool false, .slice none 0 0, .int .i64 0]) fun Al W I => ?_
   first | (rw [if_pos hof, hoffm]; exact b0e hk2 rfl I.bel (I.boxE 139 _)) | (rw [if_neg hof, if_pos (.inl h3a), if_neg (fun h => by first | exact h.2 hng | (have := h.1; omega)), if_pos h3a]; exact ⟨a.v, VA, a.p, a.c, rfl, I.fa.1, I.bel, I.boxE 139 _⟩) | (rw [if_neg hof, if_pos (.inr h3b), if_neg (fun h => h3a (by omega)), if_neg h3a]; exact ⟨b.v, VB, b.p, b.c, rfl, I.fa.2.1, I.bel, I.boxE 139 _⟩)
 refine zg I (fun Al W I => have hzW := I.bel.size; (HN W _ _ (I.box 0 139 _) (I.box 4 70 _) (by simp only [List.mem_cons, List.mem_nil_iff, or_false]; rintro x (rfl | rfl) <;> omega)).out) fun Al V Iv hzV hB Kz kz => ?_
 rintro _ W ⟨rfl, hb⟩
 refine ⟨_, rfl, kz _ _ hb fun I => ?_⟩
 clear kz Kz
 by_cases h3a : a.v.cls = 3
 · by_cases h3b : b.v.cls = 3
   · by_cases hng : a.v.neg = b.v.neg
     · refine zg I (fun Al W I => a0f a.v.cls a.v.neg a.p (dig B32 a.v.d).length a.c a.v.pow W) fun Al V Iv hzV hB Kz kz => ?_
       rintro _ W ⟨rfl, hb⟩
       refine ⟨_, congrArg (fun b => Ending.returned (.bool b)) (show (decide (a.v.cls = 3)) = true from decide_eq_true h3a), kz _ _ hb fun I => ?_⟩
       clear kz Kz
       refine zg I (fun Al W I => a0f b.v.cls b.v.neg b.p (dig B32 b.v.d).length b.c b.v.pow W) fun Al V Iv hzV hB Kz kz => ?_
       rintro _ W ⟨rfl, hb⟩
       refine ⟨_, congrArg (fun b => Ending.returned (.bool b)) (show (decide (b.v.cls = 3)) = true from decide_eq_true h3b), kz _ _ hb fun I => ?_⟩
       clear kz Kz
       refine zb I 31 (a.v.neg != b.v.neg) (false) (bne_eq_false_iff_eq.2 hng) fun Al W I => ?_
       refine zg I (fun Al W I => a0f a.v.cls a.v.neg a.p (dig B32 a.v.d).length a.c a.v.pow W) fun Al V Iv hzV hB Kz kz => ?_
       rintro _ W ⟨rfl, hb⟩
       refine ⟨_, congrArg (fun b => Ending.returned (.bool b)) (show (decide (a.v.cls = 3)) = true from decide_eq_true h3a), kz _ _ hb fun I => ?_⟩
       clear kz Kz
       rw [hM]
       refine zret I (v := fun Al => .agg #[.int .i64 (a.v.cls : Int), .bool a.v.neg, .slice a.p (dig B32 a.v.d).length a.c, .int .i64 a.v.pow]) fun Al W I => ?_
       first | (rw [if_pos hof, hoffm]; exact b0e hk2 rfl I.bel (I.boxE 139 _)) | (rw [if_neg hof, if_pos (.inl h3a), if_neg (fun h => by first | exact h.2 hng | (have := h.1; omega)), if_pos h3a]; exact ⟨a.v, VA, a.p, a.c, rfl, I.fa.1, I.bel, I.boxE 139 _⟩) | (rw [if_neg hof, if_pos (.inr h3b), if_neg (fun h => h3a (by omega)), if_neg h3a]; exact ⟨b.v, VB, b.p, b.c, rfl, I.fa.2.1, I.bel, I.boxE 139 _⟩)
     refine zg I (fun Al W I => a0f a.v.cls a.v.neg a.p (dig B32 a.v.d).length a.c a.v.pow W) fun Al V Iv hzV hB Kz kz => ?_
     rintro _ W ⟨rfl, hb⟩
     refine ⟨_, congrArg (fun b => Ending.returned (.bool b)) (show (decide (a.v.cls = 3)) = true from decide_eq_true h3a), kz _ _ hb fun I => ?_⟩
     clear kz Kz
     refine zg I (fun Al W I => a0f b.v.cls b.v.neg b.p (dig B32 b.v.d).length b.c b.v.pow W) fun Al V Iv hzV hB Kz kz => ?_
     rintro _ W ⟨rfl, hb⟩
     refine ⟨_, congrArg (fun b => Ending.returned (.bool b)) (show (decide (b.v.cls = 3)) = true from decide_eq_true h3b), kz _ _ hb fun I => ?_⟩
     clear kz Kz
     refine zb I 31 (a.v.neg != b.v.neg) (true) (bne_iff_ne.2 hng) fun Al W I => ?_
     refine zge I 0 139 (fun Al W I => (HL W _ (I.box 0 139 _)).out) fun Al V Iv hzV Kz kz => ?_
     rintro _ W ⟨v34, hR34, p34, c34, rfl, o34, hO, hB⟩
     refine ⟨_, rfl, kz _ [.v (.int .i64 n), .v (.int .i64 way), .v (.int .i64 f.g.rad), .v (.int .i64 f.g.digs), .v (.int .i64 f.g.lo), .v (.int .i64 f.g.hi), .v (.bool f.g.grad), .v (.int .u8 (famB f)), .v (.int .i64 16)] _ hO hB fun I => ?_⟩
     clear kz Kz
     have I := I.ownB base o34
     rw [hM, if_neg hof, if_pos (.inl h3a), if_pos ⟨by omega, hng⟩, hlostm]
     exact zret I fun Al W I => ⟨v34, hR34, p34, c34, rfl, I.fa.1, I.bel, I.boxE 139 _⟩
   by_cases hng : a.v.neg = b.v.neg
   · refine zg I (fun Al W I => a0f a.v.cls a.v.neg a.p (dig B32 a.v.d).length a.c a.v.pow W) fun Al V Iv hzV hB Kz kz => ?_
     rintro _ W ⟨rfl, hb⟩
     refine ⟨_, congrArg (fun b => Ending.returned (.bool b)) (show (decide (a.v.cls = 3)) = true from decide_eq_true h3a), kz _ _ hb fun I => ?_⟩
     clear kz Kz
     refine zg I (fun Al W I => a0f b.v.cls b.v.neg b.p (dig B32 b.v.d).length b.c b.v.pow W) fun Al V Iv hzV hB Kz kz => ?_
     rintro _ W ⟨rfl, hb⟩
     refine ⟨_, congrArg (fun b => Ending.returned (.bool b)) (show (decide (b.v.cls = 3)) = false from decide_eq_false h3b), kz _ _ hb fun I => ?_⟩
     clear kz Kz
     refine zg I (fun Al W I => a0f a.v.cls a.v.neg a.p (dig B32 a.v.d).length a.c a.v.pow W) fun Al V Iv hzV hB Kz kz => ?_
     rintro _ W ⟨rfl, hb⟩
     refine ⟨_, congrArg (fun b => Ending.returned (.bool b)) (show (decide (a.v.cls = 3)) = true from decide_eq_true h3a), kz _ _ hb fun I => ?_⟩
     clear kz Kz
     rw [hM]
     refine zret I (v := fun Al => .agg #[.int .i64 (a.v.cls : Int), .bool a.v.neg, .slice a.p (dig B32 a.v.d).length a.c, .int .i64 a.v.pow]) fun Al W I => ?_
     first | (rw [if_pos hof, hoffm]; exact b0e hk2 rfl I.bel (I.boxE 139 _)) | (rw [if_neg hof, if_pos (.inl h3a), if_neg (fun h => by first | exact h.2 hng | (have := h.1; omega)), if_pos h3a]; exact ⟨a.v, VA, a.p, a.c, rfl, I.fa.1, I.bel, I.boxE 139 _⟩) | (rw [if_neg hof, if_pos (.inr h3b), if_neg (fun h => h3a (by omega)), if_neg h3a]; exact ⟨b.v, VB, b.p, b.c, rfl, I.fa.2.1, I.bel, I.boxE 139 _⟩)
   refine zg I (fun Al W I => a0f a.v.cls a.v.neg a.p (dig B32 a.v.d).length a.c a.v.pow W) fun Al V Iv hzV hB Kz kz => ?_
   rintro _ W ⟨rfl, hb⟩
   refine ⟨_, congrArg (fun b => Ending.returned (.bool b)) (show (decide (a.v.cls = 3)) = true from decide_eq_true h3a), kz _ _ hb fun I => ?_⟩
   clear kz Kz
   refine zg I (fun Al W I => a0f b.v.cls b.v.neg b.p (dig B32 b.v.d).length b.c b.v.pow W) fun Al V Iv hzV hB Kz kz => ?_
   rintro _ W ⟨rfl, hb⟩
   refine ⟨_, congrArg (fun b => Ending.returned (.bool b)) (show (decide (b.v.cls = 3)) = false from decide_eq_false h3b), kz _ _ hb fun I => ?_⟩
   clear kz Kz
   refine zg I (fun Al W I => a0f a.v.cls a.v.neg a.p (dig B32 a.v.d).length a.c a.v.pow W) fun Al V Iv hzV hB Kz kz => ?_
   rintro _ W ⟨rfl, hb⟩
   refine ⟨_, congrArg (fun b => Ending.returned (.bool b)) (show (decide (a.v.cls = 3)) = true from decide_eq_true h3a), kz _ _ hb fun I => ?_⟩
   clear kz Kz
   rw [hM]
   refine zret I (v := fun Al => .agg #[.int .i64 (a.v.cls : Int), .bool a.v.neg, .slice a.p (dig B32 a.v.d).length a.c, .int .i64 a.v.pow]) fun Al W I => ?_
   first | (rw [if_pos hof, hoffm]; exact b0e hk2 rfl I.bel (I.boxE 139 _)) | (rw [if_neg hof, if_pos (.inl h3a), if_neg (fun h => by first | exact h.2 hng | (have := h.1; omega)), if_pos h3a]; exact ⟨a.v, VA, a.p, a.c, rfl, I.fa.1, I.bel, I.boxE 139 _⟩) | (rw [if_neg hof, if_pos (.inr h3b), if_neg (fun h => h3a (by omega)), if_neg h3a]; exact ⟨b.v, VB, b.p, b.c, rfl, I.fa.2.1, I.bel, I.boxE 139 _⟩)
 by_cases h3b : b.v.cls = 3
 · by_cases hng : a.v.neg = b.v.neg
   · refine zg I (fun Al W I => a0f a.v.cls a.v.neg a.p (dig B32 a.v.d).length a.c a.v.pow W) fun Al V Iv hzV hB Kz kz => ?_
     rintro _ W ⟨rfl, hb⟩
     refine ⟨_, congrArg (fun b => Ending.returned (.bool b)) (show (decide (a.v.cls = 3)) = false from decide_eq_false h3a), kz _ _ hb fun I => ?_⟩
     clear kz Kz
     refine zg I (fun Al W I => a0f a.v.cls a.v.neg a.p (dig B32 a.v.d).length a.c a.v.pow W) fun Al V Iv hzV hB Kz kz => ?_
     rintro _ W ⟨rfl, hb⟩
     refine ⟨_, congrArg (fun b => Ending.returned (.bool b)) (show (decide (a.v.cls = 3)) = false from decide_eq_false h3a), kz _ _ hb fun I => ?_⟩
     clear kz Kz
     refine zg I (fun Al W I => a0f b.v.cls b.v.neg b.p (dig B32 b.v.d).length b.c b.v.pow W) fun Al V Iv hzV hB Kz kz => ?_
     rintro _ W ⟨rfl, hb⟩
     refine ⟨_, congrArg (fun b => Ending.returned (.bool b)) (show (decide (b.v.cls = 3)) = true from decide_eq_true h3b), kz _ _ hb fun I => ?_⟩
     clear kz Kz
     rw [hM]
     refine zret I (v := fun Al => .agg #[.int .i64 (b.v.cls : Int), .bool b.v.neg, .slice b.p (dig B32 b.v.d).length b.c, .int .i64 b.v.pow]) fun Al W I => ?_
     first | (rw [if_pos hof, hoffm]; exact b0e hk2 rfl I.bel (I.boxE 139 _)) | (rw [if_neg hof, if_pos (.inl h3a), if_neg (fun h => by first | exact h.2 hng | (have := h.1; omega)), if_pos h3a]; exact ⟨a.v, VA, a.p, a.c, rfl, I.fa.1, I.bel, I.boxE 139 _⟩) | (rw [if_neg hof, if_pos (.inr h3b), if_neg (fun h => h3a (by omega)), if_neg h3a]; exact ⟨b.v, VB, b.p, b.c, rfl, I.fa.2.1, I.bel, I.boxE 139 _⟩)
   refine zg I (fun Al W I => a0f a.v.cls a.v.neg a.p (dig B32 a.v.d).length a.c a.v.pow W) fun Al V Iv hzV hB Kz kz => ?_
   rintro _ W ⟨rfl, hb⟩
   refine ⟨_, congrArg (fun b => Ending.returned (.bool b)) (show (decide (a.v.cls = 3)) = false from decide_eq_false h3a), kz _ _ hb fun I => ?_⟩
   clear kz Kz
   refine zg I (fun Al W I => a0f a.v.cls a.v.neg a.p (dig B32 a.v.d).length a.c a.v.pow W) fun Al V Iv hzV hB Kz kz => ?_
   rintro _ W ⟨rfl, hb⟩
   refine ⟨_, congrArg (fun b => Ending.returned (.bool b)) (show (decide (a.v.cls = 3)) = false from decide_eq_false h3a), kz _ _ hb fun I => ?_⟩
   clear kz Kz
   refine zg I (fun Al W I => a0f b.v.cls b.v.neg b.p (dig B32 b.v.d).length b.c b.v.pow W) fun Al V Iv hzV hB Kz kz => ?_
   rintro _ W ⟨rfl, hb⟩
   refine ⟨_, congrArg (fun b => Ending.returned (.bool b)) (show (decide (b.v.cls = 3)) = true from decide_eq_true h3b), kz _ _ hb fun I => ?_⟩
   clear kz Kz
   rw [hM]
   refine zret I (v := fun Al => .agg #[.int .i64 (b.v.cls : Int), .bool b.v.neg, .slice b.p (dig B32 b.v.d).length b.c, .int .i64 b.v.pow]) fun Al W I => ?_
   first | (rw [if_pos hof, hoffm]; exact b0e hk2 rfl I.bel (I.boxE 139 _)) | (rw [if_neg hof, if_pos (.inl h3a), if_neg (fun h => by first | exact h.2 hng | (have := h.1; omega)), if_pos h3a]; exact ⟨a.v, VA, a.p, a.c, rfl, I.fa.1, I.bel, I.boxE 139 _⟩) | (rw [if_neg hof, if_pos (.inr h3b), if_neg (fun h => h3a (by omega)), if_neg h3a]; exact ⟨b.v, VB, b.p, b.c, rfl, I.fa.2.1, I.bel, I.boxE 139 _⟩)
 by_cases hng : a.v.neg = b.v.neg
 · refine zg I (fun Al W I => a0f a.v.cls a.v.neg a.p (dig B32 a.v.d).length a.c a.v.pow W) fun Al V Iv hzV hB Kz kz => ?_
   rintro _ W ⟨rfl, hb⟩
   refine ⟨_, congrArg (fun b => Ending.returned (.bool b)) (show (decide (a.v.cls = 3)) = false from decide_eq_false h3a), kz _ _ hb fun I => ?_⟩
   clear kz Kz
   refine zg I (fun Al W I => a0f a.v.cls a.v.neg a.p (dig B32 a.v.d).length a.c a.v.pow W) fun Al V Iv hzV hB Kz kz => ?_
   rintro _ W ⟨rfl, hb⟩
   refine ⟨_, congrArg (fun b => Ending.returned (.bool b)) (show (decide (a.v.cls = 3)) = false from decide_eq_false h3a), kz _ _ hb fun I => ?_⟩
   clear kz Kz
   refine zg I (fun Al W I => a0f b.v.cls b.v.neg b.p (dig B32 b.v.d).length b.c b.v.pow W) fun Al V Iv hzV hB Kz kz => ?_
   rintro _ W ⟨rfl, hb⟩
   refine ⟨_, congrArg (fun b => Ending.returned (.bool b)) (show (decide (b.v.cls = 3)) = false from decide_eq_false h3b), kz _ _ hb fun I => ?_⟩
   clear kz Kz
   refine zd [0, 3] I fun Al W I => ?_
   refine zk [0, 1, 2, 4, 5, 7, 8, 9, 10] I fun I => ?_
   refine zo 3 I (fun I => ?_)
   refine zg I (fun Al W I => (HA W _ (I.box 0 139 _) I.fa.1 I.fa.2.2.1).out) fun Al V Iv hzV hB Kz kz => ?_
   rintro _ W ⟨p46, c46, rfl, o46, hb⟩
   refine ⟨_, rfl, kz _ _ hb fun I => ?_⟩
   clear kz Kz
   have I := I.ownB base o46
   refine zo 6 I (fun I => ?_)
   refine zg I (fun Al W I => (HB W _ (I.box 0 139 _) I.fa.2.2.1 I.fa.2.2.2.1).out) fun Al V Iv hzV hB Kz kz => ?_
   rintro _ W ⟨p49, c49, rfl, o49, hb⟩
   refine ⟨_, rfl, kz _ _ hb fun I => ?_⟩
   clear kz Kz
   have I := I.ownB base o49
   refine zo 11 I (fun I => ?_)
   refine zge I 0 139 (fun Al W I => have hzW := I.bel.size; (HS W p46 p49 c46 c49 _ _ (I.box 0 139 _) I.fa.2.1 I.fa.1 (by omega) I.fa.2.2.2.2.1).out) fun Al V Iv hzV Kz kz => ?_
   rintro _ W ⟨v54, hR54, p54, c54, rfl, o54, hO, hB⟩
   refine ⟨_, rfl, kz _ [.v (.int .i64 n), .v (.int .i64 way), .v (.int .i64 f.g.rad), .v (.int .i64 f.g.digs), .v (.int .i64 f.g.lo), .v (.int .i64 f.g.hi), .v (.bool f.g.grad), .v (.int .u8 (famB f)), .v (.int .i64 (flS : Int))] _ hO hB fun I => ?_⟩
   clear kz Kz
   have I := I.ownB base o54
   refine zo 12 I (fun I => ?_)
   refine zn I fun Al W I => ?_
   rw [hM, if_neg hof, if_neg (by rintro (h | h); exact h3a h; exact h3b h)]
   exact zret I fun Al W I => ⟨v54, hR54, p54, c54, rfl, I.fa.1, I.bel, I.boxE 139 _⟩
 refine zg I (fun Al W I => a0f a.v.cls a.v.neg a.p (dig B32 a.v.d).length a.c a.v.pow W) fun Al V Iv hzV hB Kz kz => ?_
 rintro _ W ⟨rfl, hb⟩
 refine ⟨_, congrArg (fun b => Ending.returned (.bool b)) (show (decide (a.v.cls = 3)) = false from decide_eq_false h3a), kz _ _ hb fun I => ?_⟩
 clear kz Kz
 refine zg I (fun Al W I => a0f a.v.cls a.v.neg a.p (dig B32 a.v.d).length a.c a.v.pow W) fun Al V Iv hzV hB Kz kz => ?_
 rintro _ W ⟨rfl, hb⟩
 refine ⟨_, congrArg (fun b => Ending.returned (.bool b)) (show (decide (a.v.cls = 3)) = false from decide_eq_false h3a), kz _ _ hb fun I => ?_⟩
 clear kz Kz
 refine zg I (fun Al W I => a0f b.v.cls b.v.neg b.p (dig B32 b.v.d).length b.c b.v.pow W) fun Al V Iv hzV hB Kz kz => ?_
 rintro _ W ⟨rfl, hb⟩
 refine ⟨_, congrArg (fun b => Ending.returned (.bool b)) (show (decide (b.v.cls = 3)) = false from decide_eq_false h3b), kz _ _ hb fun I => ?_⟩
 clear kz Kz
 refine zd [0, 3] I fun Al W I => ?_
 refine zk [0, 1, 2, 4, 5, 7, 8, 9, 10] I fun I => ?_
 refine zo 3 I (fun I => ?_)
 refine zg I (fun Al W I => (HA W _ (I.box 0 139 _) I.fa.1 I.fa.2.2.1).out) fun Al V Iv hzV hB Kz kz => ?_
 rintro _ W ⟨p46, c46, rfl, o46, hb⟩
 refine ⟨_, rfl, kz _ _ hb fun I => ?_⟩
 clear kz Kz
 have I := I.ownB base o46
 refine zo 6 I (fun I => ?_)
 refine zg I (fun Al W I => (HB W _ (I.box 0 139 _) I.fa.2.2.1 I.fa.2.2.2.1).out) fun Al V Iv hzV hB Kz kz => ?_
 rintro _ W ⟨p49, c49, rfl, o49, hb⟩
 refine ⟨_, rfl, kz _ _ hb fun I => ?_⟩
 clear kz Kz
 have I := I.ownB base o49
 refine zo 11 I (fun I => ?_)
 refine zge I 0 139 (fun Al W I => have hzW := I.bel.size; (HS W p46 p49 c46 c49 _ _ (I.box 0 139 _) I.fa.2.1 I.fa.1 (by omega) I.fa.2.2.2.2.1).out) fun Al V Iv hzV Kz kz => ?_
 rintro _ W ⟨v54, hR54, p54, c54, rfl, o54, hO, hB⟩
 refine ⟨_, rfl, kz _ [.v (.int .i64 n), .v (.int .i64 way), .v (.int .i64 f.g.rad), .v (.int .i64 f.g.digs), .v (.int .i64 f.g.lo), .v (.int .i64 f.g.hi), .v (.bool f.g.grad), .v (.int .u8 (famB f)), .v (.int .i64 (flS : Int))] _ hO hB fun I => ?_⟩
 clear kz Kz
 have I := I.ownB base o54
 refine zo 12 I (fun I => ?_)
 refine zn I fun Al W I => ?_
 rw [hM, if_neg hof, if_neg (by rintro (h | h); exact h3a h; exact h3b h)]
 exact zret I fun Al W I => ⟨v54, hR54, p54, c54, rfl, I.fa.1, I.bel, I.boxE 139 _⟩
end Go.Proofs.YtlcdfnaaenibgaaGreatDoor
