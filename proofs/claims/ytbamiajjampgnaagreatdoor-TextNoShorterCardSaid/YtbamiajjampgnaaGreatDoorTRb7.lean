/- codec: Encode. -/
import Derived.Deep.LoopGhost
import Derived.Deep.RegionHeld3
import Derived.Lib.Strings
import Derived.Shelf.Strings.Trim
import Derived.Shelf.Strconv.Atoi
import Derived.Shelf.LaysM
import Derived.Shelf.Strconv.Itoa3
import Derived.Test.YtbamiajjampgnaaGreatDoorProg
import Derived.LaidSub
import Derived.Lib.LaidTab
import Derived.Test.YtbamiajjampgnaaGreatDoorTRb1
import Derived.Test.YtbamiajjampgnaaGreatDoorTRb2
import Derived.Test.YtbamiajjampgnaaGreatDoorTRb3
import Derived.Test.YtbamiajjampgnaaGreatDoorTRb4
import Derived.Test.YtbamiajjampgnaaGreatDoorTRb5
import Derived.Test.YtbamiajjampgnaaGreatDoorTRb6
set_option maxHeartbeats 8000000
set_option maxRecDepth 100000
namespace Go.Proofs.YtbamiajjampgnaaGreatDoor
open Go.RowKit Go.Slip
def numD (f : Fm) (a : Din) : Dv := bare ⟨a.g, val B32 a.xs, wid f.g * a.e⟩
def a0r (f : Fm) (cls : Int) (a : Din) : Int :=
 if cls < 1 ∨ 5 < cls then 6
 else if b0m a.xs ≠ 0 then b0m a.xs
 else if ((cls = 3 ∨ cls = 4) ∧ f.inf = false) ∨ (cls = 5 ∧ f.res = false) then 5
 else if cls = 2 then
  if a.e < -20000 ∨ 20000 < a.e then 3
  else if a.xs.length = 0 ∨ a0v (numD f a) f.g = false then 4 else 0
 else if 0 < a.xs.length ∨ a.e ≠ 0 ∨ (a.g = true ∧ (4 ≤ cls ∨ f.res = true)) then 4 else 0
def p0z (f : Fm) (cls : Int) (a : Din) : ByteArray := a0c (f.strP (f.encP cls.toNat a.g (numD f a)))
def u0j (w : World) (er : Int) (s : ByteArray) (en : Ending) (w' : World) : Prop :=
 en = .returned (.tuple #[.string (if er = 0 then s else a0c []), .int .i64 er]) ∧ Below w.heap.size w w'
theorem b0a {w w' : World} {er r : Int} {s : ByteArray} {en : Ending} (h : er = r) (hr : r ≠ 0) (he : en = .returned (.tuple #[.string ⟨#[]⟩, .int .i64 r])) (hb : Below w.heap.size w w') : u0j w er s en w' := by
 subst h
 exact ⟨by rw [he, if_neg hr]; rfl, hb⟩
theorem d0s {w w' : World} {er : Int} {s t : ByteArray} {en : Ending} (h : er = 0) (hs : s = t) (he : en = .returned (.tuple #[.string t, .int .i64 0])) (hb : Below w.heap.size w w') : u0j w er s en w' := by
 subst h hs
 exact ⟨by rw [he, if_pos rfl], hb⟩
theorem n1g {f : Fm} {w : World} {a : Din} (ha : InD w a) (h : b0m a.xs = 0) (he : -20000 ≤ a.e ∧ a.e ≤ 20000) : (dig B32 (numD f a).m).length ≤ 1200 ∧ -100000 ≤ (numD f a).e ∧ (numD f a).e ≤ 150000 := by
 obtain ⟨h1, h2⟩ := e0t ha.lt h
 have hl : (dig B32 (val B32 a.xs)).length ≤ 1200 := by rw [← h1]; exact h2
 have k1 := y0m a0a (⟨a.g, val B32 a.xs, wid f.g * a.e⟩ : Dv)
 have wp := b0n f.g
 have hmu := y0z (wd := wid f.g) (k := a.e) (B := 20000) wp.2 he
 refine ⟨Nat.le_trans k1 hl, ?_⟩
 unfold numD
 by_cases h0 : val B32 a.xs = 0
 · rw [h0, t0a]; simp
 · have ht := f0l (m := val B32 a.xs) (by omega)
   have hb := c0x (val B32 a.xs)
   unfold bare
   rw [if_neg h0]
   simp only
   omega
theorem j1f (f : Fm) (g : Bool) (E : Int) (e : Nat) (hE : E = e) (w : World) (G : d0k f) (he : e < 2 ^ f.E) :
 Calls Tryz.prog 187 #[.agg #[.int .i64 (f.size : Int), .int .i64 (f.E : Int), .int .i64 (f.F : Int), .int .i64 f.g.rad, .int .i64 f.g.digs, .int .i64 f.g.lo, .int .i64 f.g.hi, .bool f.g.grad, .bool f.hid, .bool f.inf, .bool f.res, .func (.func (ordF f)) #[] #[]], .agg #[.bool g, .int .i64 E, .slice none 0 0]] w fun en w' => en = .returned (.string (a0c (f.str g e 0))) ∧ Below w.heap.size w w' := by
 have := s0j f g E e 0 hE none 0 w G (by rw [a0d]; exact Rd.nil _ _ _) he (Nat.pow_pos (by omega))
 rw [a0d] at this
 exact this
theorem f1o (n : Int) (cls : Int) (a : Din) (w : World) (hn : IsFm n) (ha : InD w a) (hT : TabW w) :
 Calls Tryz.prog 154 #[.int .i64 n, .agg #[.int .i64 cls, .bool a.g, .slice a.p a.xs.length a.c, .int .i64 a.e]] w (u0j w (a0r (fmt n) cls a) (p0z (fmt n) cls a)) := by
 have G := c0i hn
 have HF := fun W => hi0 (g0v n hn W)
 generalize fmt n = f at *
 have HR : ∀ (W : World), b0m a.xs = 0 → Rd W .u32 a.p a.xs → -20000 ≤ a.e ∧ a.e ≤ 20000 → TabW W → Hid (Calls Tryz.prog 185 #[.agg #[.int .i64 (f.size : Int), .int .i64 (f.E : Int), .int .i64 (f.F : Int), .int .i64 f.g.rad, .int .i64 f.g.digs, .int .i64 f.g.lo, .int .i64 f.g.hi, .bool f.g.grad, .bool f.hid, .bool f.inf, .bool f.res, .func (.func (ordF f)) #[] #[]], .agg #[.int .i64 cls, .bool a.g, .slice a.p a.xs.length a.c, .int .i64 a.e]] W (n0t W W.heap.size (numD f a))) := by
  intro W h1 h2 h3 h4
  obtain ⟨k1, k2⟩ := e0t ha.lt h1
  have hc := ha.cap
  have := n1e f a.g (val B32 a.xs) a.e cls a.p a.c W (by rw [← k1]; exact h2) (by rw [← k1]; exact hc) (by rw [← k1]; omega) ⟨by omega, by omega⟩ h4
  rw [← k1] at this
  exact hi0 this
 have hB : Bare (numD f a) := j0z _
 have hbd := fun h h2 => n1g (f := f) ha h h2
 have hkp := r0j hB (c0a G.g)
 have hxl : 0 < a.xs.length ↔ a.xs.length ≠ 0 := by omega
 have hm0 : b0m a.xs = 0 → a.xs.length ≠ 0 → (numD f a).m ≠ 0 := fun h1 h2 h3 => by
  obtain ⟨k1, _⟩ := e0t ha.lt h1
  have h4 : val B32 a.xs ≠ 0 := fun h => h2 (by rw [k1]; exact (a0e a0a _).2 h)
  unfold numD bare at h3
  rw [if_neg h4] at h3
  simp only at h3
  have := (b0w (val B32 a.xs) (by omega)).2
  rw [h3] at this
  simp at this
 have hige := fun h => h1o (a := numD f a) G.g hB h
 have z2 := G.e2
 have z3 := G.f2
 have z4 := G.f1
 have hsh := r0f (E := f.E) (by omega)
 have h0T : 0 < 2 ^ f.E := Nat.pow_pos (by omega)
 have h0T2 : 2 ^ f.E ≤ 2 ^ 15 := Nat.pow_le_pow_right (by omega) (by omega)
 have HSH := hi0 hsh
 have hlen := ha.len
 have hhid : f.inf = true → (f.hid = true ↔ f.ext = false) := fun h => by
  have h1 : f.fam = 1 := by unfold Fm.inf at h; simpa using h
  unfold Fm.hid
  rw [h1]
  cases f.ext <;> simp
 have rd := ha.rd
 unfold p0z
 obtain ⟨d, hD⟩ : ∃ d, numD f a = d := ⟨_, rfl⟩
 rw [hD] at HR hB hbd hkp hm0 hige ⊢
 have e1 : f.encP 1 a.g d = ⟨a.g, 0, 0⟩ := rfl
 have e2 : f.encP 2 a.g d = f.numP d := rfl
 have e3 : f.encP 3 a.g d = ⟨a.g, 2 ^ f.E - 1, if f.ext then 2 ^ 63 else 0⟩ := rfl
 have e4 : f.encP 4 a.g d = ⟨a.g, 2 ^ f.E - 1, if f.ext then 2 ^ 63 + 2 ^ 62 else 2 ^ (f.F - 1)⟩ := rfl
 have e5 : f.encP 5 a.g d = ⟨true, 0, 0⟩ := rfl
 have hF1 : 2 ^ (f.F - 1) < 2 ^ f.F := Nat.pow_lt_pow_right (by omega) (by omega)
 have hF0 : 0 < 2 ^ f.F := Nat.pow_pos (by omega)
 have hx64 : f.ext = true → 2 ^ f.F = 2 ^ 64 := fun h => by rw [(G.ext h).2.1]
 have hext : f.inf = true → f.hid = false → f.ext = true := fun h1 h2 => by
  cases hx : f.ext with
  | true => rfl
  | false => have := (hhid h1).2 hx; rw [h2] at this; cases this
 have hJ := fun (W : World) (g : Bool) (E : Int) (e x : Nat) (hE : E = e) (p : Option Addr) (c : Nat) h h1 h2 => hi0 (s0j f g E e x hE p c W G h h1 h2)
 have hJ0 := fun (W : World) (g : Bool) (E : Int) (e : Nat) (hE : E = e) h1 => hi0 (j1f f g E e hE W G h1)
 have h63 : (dig B32 (2 ^ 63)).length ≤ 2 := b0d (n := 64) (by omega) (by omega)
 have h62 : (dig B32 (2 ^ 62)).length ≤ 2 := b0d (n := 64) (by omega) (by omega)
 generalize 2 ^ f.E = P at *
 clear hsh ha
 have I := Inv.start w [rdF .u32 a.p a.xs, tabF] ⟨rd, hT, True.intro⟩
 refine a0h [.v (.int .i64 n), .v (.agg #[.int .i64 cls, .bool a.g, .slice a.p a.xs.length a.c, .int .i64 a.e])] I Tryz.func154 ?_
 refine zq I (fun Al W I => (HF W).out) fun Al W I => ?_
 rcases Bool.eq_false_or_eq_true (decide (cls < 1)) with f21 | f21
 · refine zb I 21 (decide (cls < 1)) (true) (f21) fun Al W I => ?_
   have hE : a0r f cls a = 6 := by unfold a0r; rw [if_pos (by first | (have := oTr f21; omega) | (have := oTr f25; omega))]
   have hN : (6 : Int) ≠ 0 := by decide
   exact zret I fun Al W I => b0a hE hN rfl I.below
 refine zb I 21 (decide (cls < 1)) (false) (f21) fun Al W I => ?_
 rcases Bool.eq_false_or_eq_true (decide (cls > 5)) with f25 | f25
 · refine zb I 25 (decide (cls > 5)) (true) (f25) fun Al W I => ?_
   have hE : a0r f cls a = 6 := by unfold a0r; rw [if_pos (by first | (have := oTr f21; omega) | (have := oTr f25; omega))]
   have hN : (6 : Int) ≠ 0 := by decide
   exact zret I fun Al W I => b0a hE hN rfl I.below
 refine zb I 25 (decide (cls > 5)) (false) (f25) fun Al W I => ?_
 have c1 : ¬ (cls < 1 ∨ 5 < cls) := by have := oFa f21; have := oFa f25; omega
 refine zq I (fun Al W I => h0k a.p _ a.c a.xs W I.fa.1 rfl hlen) fun Al W I => ?_
 rcases Bool.eq_false_or_eq_true ((b0m a.xs) != 0) with f31 | f31
 · refine zb I 31 ((b0m a.xs) != 0) (true) (f31) fun Al W I => ?_
   have hN : b0m a.xs ≠ 0 := bne_iff_ne.1 f31
   have hE : a0r f cls a = b0m a.xs := by unfold a0r; rw [if_neg c1, if_pos hN]
   exact zret I fun Al W I => b0a hE hN rfl I.below
 refine zb I 31 ((b0m a.xs) != 0) (false) (f31) fun Al W I => ?_
 have c2 : b0m a.xs = 0 := by simpa using f31
 rcases Bool.eq_false_or_eq_true (cls == 3) with f35 | f35
 · refine zb I 35 (cls == 3) (true) (f35) fun Al W I => ?_
   rcases Bool.eq_false_or_eq_true (f.inf) with f43 | f43
   · refine zb I 43 (f.inf) (true) (f43) fun Al W I => ?_
     refine zb I 49 (cls == 5) (false) (bFn (by have := beq_iff_eq.1 f35; omega)) fun Al W I => ?_
     have c3 : ¬ (((cls = 3 ∨ cls = 4) ∧ f.inf = false) ∨ (cls = 5 ∧ f.res = false)) := fun h => by rcases h with ⟨h, k⟩ | ⟨h, k⟩ <;> first | (rw [f43] at k; cases k; done) | (rw [f52] at k; cases k; done) | (have q := beq_iff_eq.1 f35; omega) | (have q := beq_iff_eq.1 f39; omega) | (have q := bnF f35; have q2 := bnF f39; omega) | (have q := bnF f49; omega)
     refine zb I 58 (cls == 2) (false) (bFn (by have := beq_iff_eq.1 f35; omega)) fun Al W I => ?_
     have c58 : cls ≠ 2 := by first | (have := beq_iff_eq.1 f35; omega) | (have := beq_iff_eq.1 f39; omega) | (have := beq_iff_eq.1 f49; omega) | exact bnF f58
     rcases Bool.eq_false_or_eq_true (decide ((a.xs.length : Int) > 0)) with f88 | f88
     · refine zb I 88 (decide ((a.xs.length : Int) > 0)) (true) (f88) fun Al W I => ?_
       have hE : a0r f cls a = 4 := by unfold a0r; rw [if_neg c1, if_neg (by omega), if_neg c3, if_neg c58, if_pos (by first | (have := oTr f88; omega) | exact .inr (.inl (bne_iff_ne.1 f92)) | exact .inr (.inr ⟨f96, .inr f103⟩) | exact .inr (.inr ⟨f96, .inl (by first | (have := beq_iff_eq.1 f39; omega) | (have := beq_iff_eq.1 f49; omega))⟩))]
       have hN : (4 : Int) ≠ 0 := by decide
       exact zret I fun Al W I => b0a hE hN rfl I.below
     refine zb I 88 (decide ((a.xs.length : Int) > 0)) (false) (f88) fun Al W I => ?_
     rcases Bool.eq_false_or_eq_true (a.e != 0) with f92 | f92
     · refine zb I 92 (a.e != 0) (true) (f92) fun Al W I => ?_
       have hE : a0r f cls a = 4 := by unfold a0r; rw [if_neg c1, if_neg (by omega), if_neg c3, if_neg c58, if_pos (by first | (have := oTr f88; omega) | exact .inr (.inl (bne_iff_ne.1 f92)) | exact .inr (.inr ⟨f96, .inr f103⟩) | exact .inr (.inr ⟨f96, .inl (by first | (have := beq_iff_eq.1 f39; omega) | (have := beq_iff_eq.1 f49; omega))⟩))]
       have hN : (4 : Int) ≠ 0 := by decide
       exact zret I fun Al W I => b0a hE hN rfl I.below
     refine zb I 92 (a.e != 0) (false) (f92) fun Al W I => ?_
     rcases Bool.eq_false_or_eq_true (a.g) with f96 | f96
     · refine zb I 96 (a.g) (true) (f96) fun Al W I => ?_
       refine zb I 100 (decide (cls ≥ 4)) (false) (dFa (by have := beq_iff_eq.1 f35; omega)) fun Al W I => ?_
       rcases Bool.eq_false_or_eq_true (f.res) with f103 | f103
       · refine zb I 103 (f.res) (true) (f103) fun Al W I => ?_
         have hE : a0r f cls a = 4 := by unfold a0r; rw [if_neg c1, if_neg (by omega), if_neg c3, if_neg c58, if_pos (by first | (have := oTr f88; omega) | exact .inr (.inl (bne_iff_ne.1 f92)) | exact .inr (.inr ⟨f96, .inr f103⟩) | exact .inr (.inr ⟨f96, .inl (by first | (have := beq_iff_eq.1 f39; omega) | (have := beq_iff_eq.1 f49; omega))⟩))]
         have hN : (4 : Int) ≠ 0 := by decide
         exact zret I fun Al W I => b0a hE hN rfl I.below
       refine zb I 103 (f.res) (false) (f103) fun Al W I => ?_
       have hE : a0r f cls a = 0 := by unfold a0r; rw [if_neg c1, if_neg (by omega), if_neg c3, if_neg c58, if_neg (fun h => by rcases h with h | h | ⟨h, k⟩ <;> first | (have := oFa f88; omega) | (rw [show (a.e != 0) = true from bne_iff_ne.2 h] at f92; cases f92; done) | (rw [f96] at h; cases h; done) | (rcases k with k | k <;> first | (have := beq_iff_eq.1 f35; omega) | (have := bnF f49; have := bnF f35; have := bnF f39; omega) | (rw [f103] at k; cases k; done)))]
       refine zbin I 109 _ (fun _ _ _ _ _ => c0z .i64 (1) .i64 (f.E : Int) ((P : Int)) (by omega) ((HSH.out))) fun Al W I => ?_
       refine zi I 110 .i64 ((P : Int) - 1) (((P - 1 : Nat) : Int)) ((by rw [show ((P : Int) - 1) = ((P - 1 : Nat) : Int) by omega]; exact iwo)) fun Al W I => ?_
       refine zb I 117 (cls == 3) (true) (f35) fun Al W I => ?_
       rcases Bool.eq_false_or_eq_true (f.hid) with f121 | f121
       · refine zb I 121 (f.hid) (true) (f121) fun Al W I => ?_
         refine zg I (fun Al W I => have hzW := I.bel.size; (hJ0 W a.g ((P - 1 : Nat) : Int) (P - 1) rfl (by omega)).out) fun Al V Iv _ hB _ kz => ?_
         rintro _ W ⟨rfl, hb⟩
         have hS : a0c (f.strP (f.encP cls.toNat a.g d)) = a0c (f.str a.g (P - 1) 0) := by rw [show cls.toNat = 3 by have := beq_iff_eq.1 f35; omega, e3, if_neg (by rw [(hhid f43).1 f121]; simp)]; rfl
         refine ⟨_, rfl, kz _ _ hb fun I => ?_⟩
         exact zret I fun Al W I => d0s hE hS rfl I.below
       refine zb I 121 (f.hid) (false) (f121) fun Al W I => ?_
       refine zqo I (fun Al W I => have hzW := I.bel.size; g0k 63 (2 ^ 63) 63 W (by omega) rfl rfl) fun Al W p123 c123 I => ?_
       refine zg I (fun Al W I => have hzW := I.bel.size; (hJ W a.g ((P - 1 : Nat) : Int) (P - 1) (2 ^ 63) rfl p123 c123 I.fa.1.rd (by omega) (by rw [hx64 (hext f43 f121)]; omega)).out) fun Al V Iv _ hB _ kz => ?_
       rintro _ W ⟨rfl, hb⟩
       have hS : a0c (f.strP (f.encP cls.toNat a.g d)) = a0c (f.str a.g (P - 1) (2 ^ 63)) := by rw [show cls.toNat = 3 by have := beq_iff_eq.1 f35; omega, e3, if_pos (hext f43 f121)]; rfl
       refine ⟨_, rfl, kz _ _ hb fun I => ?_⟩
       exact zret I fun Al W I => d0s hE hS rfl I.below
     refine zb I 96 (a.g) (false) (f96) fun Al W I => ?_
     have hE : a0r f cls a = 0 := by unfold a0r; rw [if_neg c1, if_neg (by omega), if_neg c3, if_neg c58, if_neg (fun h => by rcases h with h | h | ⟨h, k⟩ <;> first | (have := oFa f88; omega) | (rw [show (a.e != 0) = true from bne_iff_ne.2 h] at f92; cases f92; done) | (rw [f96] at h; cases h; done) | (rcases k with k | k <;> first | (have := beq_iff_eq.1 f35; omega) | (have := bnF f49; have := bnF f35; have := bnF f39; omega) | (rw [f103] at k; cases k; done)))]
     refine zbin I 109 _ (fun _ _ _ _ _ => c0z .i64 (1) .i64 (f.E : Int) ((P : Int)) (by omega) ((HSH.out))) fun Al W I => ?_
     refine zi I 110 .i64 ((P : Int) - 1) (((P - 1 : Nat) : Int)) ((by rw [show ((P : Int) - 1) = ((P - 1 : Nat) : Int) by omega]; exact iwo)) fun Al W I => ?_
     refine zb I 117 (cls == 3) (true) (f35) fun Al W I => ?_
     rcases Bool.eq_false_or_eq_true (f.hid) with f121 | f121
     · refine zb I 121 (f.hid) (true) (f121) fun Al W I => ?_
       refine zg I (fun Al W I => have hzW := I.bel.size; (hJ0 W a.g ((P - 1 : Nat) : Int) (P - 1) rfl (by omega)).out) fun Al V Iv _ hB _ kz => ?_
       rintro _ W ⟨rfl, hb⟩
       have hS : a0c (f.strP (f.encP cls.toNat a.g d)) = a0c (f.str a.g (P - 1) 0) := by rw [show cls.toNat = 3 by have := beq_iff_eq.1 f35; omega, e3, if_neg (by rw [(hhid f43).1 f121]; simp)]; rfl
       refine ⟨_, rfl, kz _ _ hb fun I => ?_⟩
       exact zret I fun Al W I => d0s hE hS rfl I.below
     refine zb I 121 (f.hid) (false) (f121) fun Al W I => ?_
     refine zqo I (fun Al W I => have hzW := I.bel.size; g0k 63 (2 ^ 63) 63 W (by omega) rfl rfl) fun Al W p123 c123 I => ?_
     refine zg I (fun Al W I => have hzW := I.bel.size; (hJ W a.g ((P - 1 : Nat) : Int) (P - 1) (2 ^ 63) rfl p123 c123 I.fa.1.rd (by omega) (by rw [hx64 (hext f43 f121)]; omega)).out) fun Al V Iv _ hB _ kz => ?_
     rintro _ W ⟨rfl, hb⟩
     have hS : a0c (f.strP (f.encP cls.toNat a.g d)) = a0c (f.str a.g (P - 1) (2 ^ 63)) := by rw [show cls.toNat = 3 by have := beq_iff_eq.1 f35; omega, e3, if_pos (hext f43 f121)]; rfl
     refine ⟨_, rfl, kz _ _ hb fun I => ?_⟩
     exact zret I fun Al W I => d0s hE hS rfl I.below
   refine zb I 43 (f.inf) (false) (f43) fun Al W I => ?_
   have hE : a0r f cls a = 5 := by unfold a0r; rw [if_neg c1, if_neg (by omega), if_pos (by first | exact .inl ⟨.inl (beq_iff_eq.1 f35), f43⟩ | exact .inl ⟨.inr (beq_iff_eq.1 f39), f43⟩ | exact .inr ⟨beq_iff_eq.1 f49, f52⟩)]
   have hN : (5 : Int) ≠ 0 := by decide
   exact zret I fun Al W I => b0a hE hN rfl I.below
 refine zb I 35 (cls == 3) (false) (f35) fun Al W I => ?_
 rcases Bool.eq_false_or_eq_true (cls == 4) with f39 | f39
 · refine zb I 39 (cls == 4) (true) (f39) fun Al W I => ?_
   rcases Bool.eq_false_or_eq_true (f.inf) with f43 | f43
   · refine zb I 43 (f.inf) (true) (f43) fun Al W I => ?_
     refine zb I 49 (cls == 5) (false) (bFn (by have := beq_iff_eq.1 f39; omega)) fun Al W I => ?_
     have c3 : ¬ (((cls = 3 ∨ cls = 4) ∧ f.inf = false) ∨ (cls = 5 ∧ f.res = false)) := fun h => by rcases h with ⟨h, k⟩ | ⟨h, k⟩ <;> first | (rw [f43] at k; cases k; done) | (rw [f52] at k; cases k; done) | (have q := beq_iff_eq.1 f35; omega) | (have q := beq_iff_eq.1 f39; omega) | (have q := bnF f35; have q2 := bnF f39; omega) | (have q := bnF f49; omega)
     refine zb I 58 (cls == 2) (false) (bFn (by have := beq_iff_eq.1 f39; omega)) fun Al W I => ?_
     have c58 : cls ≠ 2 := by first | (have := beq_iff_eq.1 f35; omega) | (have := beq_iff_eq.1 f39; omega) | (have := beq_iff_eq.1 f49; omega) | exact bnF f58
     rcases Bool.eq_false_or_eq_true (decide ((a.xs.length : Int) > 0)) with f88 | f88
     · refine zb I 88 (decide ((a.xs.length : Int) > 0)) (true) (f88) fun Al W I => ?_
       have hE : a0r f cls a = 4 := by unfold a0r; rw [if_neg c1, if_neg (by omega), if_neg c3, if_neg c58, if_pos (by first | (have := oTr f88; omega) | exact .inr (.inl (bne_iff_ne.1 f92)) | exact .inr (.inr ⟨f96, .inr f103⟩) | exact .inr (.inr ⟨f96, .inl (by first | (have := beq_iff_eq.1 f39; omega) | (have := beq_iff_eq.1 f49; omega))⟩))]
       have hN : (4 : Int) ≠ 0 := by decide
       exact zret I fun Al W I => b0a hE hN rfl I.below
     refine zb I 88 (decide ((a.xs.length : Int) > 0)) (false) (f88) fun Al W I => ?_
     rcases Bool.eq_false_or_eq_true (a.e != 0) with f92 | f92
     · refine zb I 92 (a.e != 0) (true) (f92) fun Al W I => ?_
       have hE : a0r f cls a = 4 := by unfold a0r; rw [if_neg c1, if_neg (by omega), if_neg c3, if_neg c58, if_pos (by first | (have := oTr f88; omega) | exact .inr (.inl (bne_iff_ne.1 f92)) | exact .inr (.inr ⟨f96, .inr f103⟩) | exact .inr (.inr ⟨f96, .inl (by first | (have := beq_iff_eq.1 f39; omega) | (have := beq_iff_eq.1 f49; omega))⟩))]
       have hN : (4 : Int) ≠ 0 := by decide
       exact zret I fun Al W I => b0a hE hN rfl I.below
     refine zb I 92 (a.e != 0) (false) (f92) fun Al W I => ?_
     rcases Bool.eq_false_or_eq_true (a.g) with f96 | f96
     · refine zb I 96 (a.g) (true) (f96) fun Al W I => ?_
       refine zb I 100 (decide (cls ≥ 4)) (true) (dTr (by have := beq_iff_eq.1 f39; omega)) fun Al W I => ?_
       have hE : a0r f cls a = 4 := by unfold a0r; rw [if_neg c1, if_neg (by omega), if_neg c3, if_neg c58, if_pos (by first | (have := oTr f88; omega) | exact .inr (.inl (bne_iff_ne.1 f92)) | exact .inr (.inr ⟨f96, .inr f103⟩) | exact .inr (.inr ⟨f96, .inl (by first | (have := beq_iff_eq.1 f39; omega) | (have := beq_iff_eq.1 f49; omega))⟩))]
       have hN : (4 : Int) ≠ 0 := by decide
       exact zret I fun Al W I => b0a hE hN rfl I.below
     refine zb I 96 (a.g) (false) (f96) fun Al W I => ?_
     have hE : a0r f cls a = 0 := by unfold a0r; rw [if_neg c1, if_neg (by omega), if_neg c3, if_neg c58, if_neg (fun h => by rcases h with h | h | ⟨h, k⟩ <;> first | (have := oFa f88; omega) | (rw [show (a.e != 0) = true from bne_iff_ne.2 h] at f92; cases f92; done) | (rw [f96] at h; cases h; done) | (rcases k with k | k <;> first | (have := beq_iff_eq.1 f35; omega) | (have := bnF f49; have := bnF f35; have := bnF f39; omega) | (rw [f103] at k; cases k; done)))]
     refine zbin I 109 _ (fun _ _ _ _ _ => c0z .i64 (1) .i64 (f.E : Int) ((P : Int)) (by omega) ((HSH.out))) fun Al W I => ?_
     refine zi I 110 .i64 ((P : Int) - 1) (((P - 1 : Nat) : Int)) ((by rw [show ((P : Int) - 1) = ((P - 1 : Nat) : Int) by omega]; exact iwo)) fun Al W I => ?_
     refine zb I 117 (cls == 3) (false) (f35) fun Al W I => ?_
     refine zb I 126 (cls == 4) (true) (f39) fun Al W I => ?_
     refine zi I 130 .i64 ((f.F : Int) - 1) (((f.F - 1 : Nat) : Int)) ((by rw [show ((f.F : Int) - 1) = ((f.F - 1 : Nat) : Int) by omega]; exact iwo)) fun Al W I => ?_
     refine zqo I (fun Al W I => have hzW := I.bel.size; g0k (f.F - 1) (2 ^ (f.F - 1)) _ W (by omega) rfl rfl) fun Al W p131 c131 I => ?_
     rcases Bool.eq_false_or_eq_true (f.hid) with f135 | f135
     · refine zb I 135 (f.hid) (true) (f135) fun Al W I => ?_
       refine zg I (fun Al W I => have hzW := I.bel.size; (hJ W a.g ((P - 1 : Nat) : Int) (P - 1) (2 ^ (f.F - 1)) rfl p131 c131 I.fa.1.rd (by omega) hF1).out) fun Al V Iv _ hB _ kz => ?_
       rintro _ W ⟨rfl, hb⟩
       have hS : a0c (f.strP (f.encP cls.toNat a.g d)) = a0c (f.str a.g (P - 1) (2 ^ (f.F - 1))) := by rw [show cls.toNat = 4 by have := beq_iff_eq.1 f39; omega, e4, if_neg (by rw [(hhid f43).1 f135]; simp)]; rfl
       refine ⟨_, rfl, kz _ _ hb fun I => ?_⟩
       exact zret I fun Al W I => d0s hE hS rfl I.below
     refine zb I 135 (f.hid) (false) (f135) fun Al W I => ?_
     refine zqo I (fun Al W I => have hzW := I.bel.size; g0k 63 (2 ^ 63) 63 W (by omega) rfl rfl) fun Al W p137 c137 I => ?_
     refine zqo I (fun Al W I => have hzW := I.bel.size; g0k 62 (2 ^ 62) 62 W (by omega) rfl rfl) fun Al W p138 c138 I => ?_
     refine zqo I (fun Al W I => have hzW := I.bel.size; sadd p137 p138 _ _ c137 c138 (2 ^ 63) (2 ^ 62) (2 ^ 63 + 2 ^ 62) W I.fa.2.1.rd I.fa.1.rd rfl rfl (by omega) (by omega) rfl) fun Al W p139 c139 I => ?_
     refine zg I (fun Al W I => have hzW := I.bel.size; (hJ W a.g ((P - 1 : Nat) : Int) (P - 1) (2 ^ 63 + 2 ^ 62) rfl p139 c139 I.fa.1.rd (by omega) (by rw [hx64 (hext f43 f135)]; omega)).out) fun Al V Iv _ hB _ kz => ?_
     rintro _ W ⟨rfl, hb⟩
     have hS : a0c (f.strP (f.encP cls.toNat a.g d)) = a0c (f.str a.g (P - 1) (2 ^ 63 + 2 ^ 62)) := by rw [show cls.toNat = 4 by have := beq_iff_eq.1 f39; omega, e4, if_pos (hext f43 f135)]; rfl
     refine ⟨_, rfl, kz _ _ hb fun I => ?_⟩
     exact zret I fun Al W I => d0s hE hS rfl I.below
   refine zb I 43 (f.inf) (false) (f43) fun Al W I => ?_
   have hE : a0r f cls a = 5 := by unfold a0r; rw [if_neg c1, if_neg (by omega), if_pos (by first | exact .inl ⟨.inl (beq_iff_eq.1 f35), f43⟩ | exact .inl ⟨.inr (beq_iff_eq.1 f39), f43⟩ | exact .inr ⟨beq_iff_eq.1 f49, f52⟩)]
   have hN : (5 : Int) ≠ 0 := by decide
   exact zret I fun Al W I => b0a hE hN rfl I.below
 refine zb I 39 (cls == 4) (false) (f39) fun Al W I => ?_
 rcases Bool.eq_false_or_eq_true (cls == 5) with f49 | f49
 · refine zb I 49 (cls == 5) (true) (f49) fun Al W I => ?_
   rcases Bool.eq_false_or_eq_true (f.res) with f52 | f52
   · refine zb I 52 (f.res) (true) (f52) fun Al W I => ?_
     have c3 : ¬ (((cls = 3 ∨ cls = 4) ∧ f.inf = false) ∨ (cls = 5 ∧ f.res = false)) := fun h => by rcases h with ⟨h, k⟩ | ⟨h, k⟩ <;> first | (rw [f43] at k; cases k; done) | (rw [f52] at k; cases k; done) | (have q := beq_iff_eq.1 f35; omega) | (have q := beq_iff_eq.1 f39; omega) | (have q := bnF f35; have q2 := bnF f39; omega) | (have q := bnF f49; omega)
     refine zb I 58 (cls == 2) (false) (bFn (by have := beq_iff_eq.1 f49; omega)) fun Al W I => ?_
     have c58 : cls ≠ 2 := by first | (have := beq_iff_eq.1 f35; omega) | (have := beq_iff_eq.1 f39; omega) | (have := beq_iff_eq.1 f49; omega) | exact bnF f58
     rcases Bool.eq_false_or_eq_true (decide ((a.xs.length : Int) > 0)) with f88 | f88
     · refine zb I 88 (decide ((a.xs.length : Int) > 0)) (true) (f88) fun Al W I => ?_
       have hE : a0r f cls a = 4 := by unfold a0r; rw [if_neg c1, if_neg (by omega), if_neg c3, if_neg c58, if_pos (by first | (have := oTr f88; omega) | exact .inr (.inl (bne_iff_ne.1 f92)) | exact .inr (.inr ⟨f96, .inr f103⟩) | exact .inr (.inr ⟨f96, .inl (by first | (have := beq_iff_eq.1 f39; omega) | (have := beq_iff_eq.1 f49; omega))⟩))]
       have hN : (4 : Int) ≠ 0 := by decide
       exact zret I fun Al W I => b0a hE hN rfl I.below
     refine zb I 88 (decide ((a.xs.length : Int) > 0)) (false) (f88) fun Al W I => ?_
     rcases Bool.eq_false_or_eq_true (a.e != 0) with f92 | f92
     · refine zb I 92 (a.e != 0) (true) (f92) fun Al W I => ?_
       have hE : a0r f cls a = 4 := by unfold a0r; rw [if_neg c1, if_neg (by omega), if_neg c3, if_neg c58, if_pos (by first | (have := oTr f88; omega) | exact .inr (.inl (bne_iff_ne.1 f92)) | exact .inr (.inr ⟨f96, .inr f103⟩) | exact .inr (.inr ⟨f96, .inl (by first | (have := beq_iff_eq.1 f39; omega) | (have := beq_iff_eq.1 f49; omega))⟩))]
       have hN : (4 : Int) ≠ 0 := by decide
       exact zret I fun Al W I => b0a hE hN rfl I.below
     refine zb I 92 (a.e != 0) (false) (f92) fun Al W I => ?_
     rcases Bool.eq_false_or_eq_true (a.g) with f96 | f96
     · refine zb I 96 (a.g) (true) (f96) fun Al W I => ?_
       refine zb I 100 (decide (cls ≥ 4)) (true) (dTr (by have := beq_iff_eq.1 f49; omega)) fun Al W I => ?_
       have hE : a0r f cls a = 4 := by unfold a0r; rw [if_neg c1, if_neg (by omega), if_neg c3, if_neg c58, if_pos (by first | (have := oTr f88; omega) | exact .inr (.inl (bne_iff_ne.1 f92)) | exact .inr (.inr ⟨f96, .inr f103⟩) | exact .inr (.inr ⟨f96, .inl (by first | (have := beq_iff_eq.1 f39; omega) | (have := beq_iff_eq.1 f49; omega))⟩))]
       have hN : (4 : Int) ≠ 0 := by decide
       exact zret I fun Al W I => b0a hE hN rfl I.below
     refine zb I 96 (a.g) (false) (f96) fun Al W I => ?_
     have hE : a0r f cls a = 0 := by unfold a0r; rw [if_neg c1, if_neg (by omega), if_neg c3, if_neg c58, if_neg (fun h => by rcases h with h | h | ⟨h, k⟩ <;> first | (have := oFa f88; omega) | (rw [show (a.e != 0) = true from bne_iff_ne.2 h] at f92; cases f92; done) | (rw [f96] at h; cases h; done) | (rcases k with k | k <;> first | (have := beq_iff_eq.1 f35; omega) | (have := bnF f49; have := bnF f35; have := bnF f39; omega) | (rw [f103] at k; cases k; done)))]
     refine zbin I 109 _ (fun _ _ _ _ _ => c0z .i64 (1) .i64 (f.E : Int) ((P : Int)) (by omega) ((HSH.out))) fun Al W I => ?_
     refine zi I 110 .i64 ((P : Int) - 1) (((P - 1 : Nat) : Int)) ((by rw [show ((P : Int) - 1) = ((P - 1 : Nat) : Int) by omega]; exact iwo)) fun Al W I => ?_
     refine zb I 117 (cls == 3) (false) (f35) fun Al W I => ?_
     refine zb I 126 (cls == 4) (false) (f39) fun Al W I => ?_
     refine zb I 142 (cls == 5) (true) (f49) fun Al W I => ?_
     refine zg I (fun Al W I => (hJ0 W true 0 0 rfl h0T).out) fun Al V Iv _ hB _ kz => ?_
     rintro _ W ⟨rfl, hb⟩
     have hS : a0c (f.strP (f.encP cls.toNat a.g d)) = a0c (f.str true 0 0) := by rw [show cls.toNat = 5 by have := beq_iff_eq.1 f49; omega, e5]; rfl
     refine ⟨_, rfl, kz _ _ hb fun I => ?_⟩
     exact zret I fun Al W I => d0s hE hS rfl I.below
   refine zb I 52 (f.res) (false) (f52) fun Al W I => ?_
   have hE : a0r f cls a = 5 := by unfold a0r; rw [if_neg c1, if_neg (by omega), if_pos (by first | exact .inl ⟨.inl (beq_iff_eq.1 f35), f43⟩ | exact .inl ⟨.inr (beq_iff_eq.1 f39), f43⟩ | exact .inr ⟨beq_iff_eq.1 f49, f52⟩)]
   have hN : (5 : Int) ≠ 0 := by decide
   exact zret I fun Al W I => b0a hE hN rfl I.below
 refine zb I 49 (cls == 5) (false) (f49) fun Al W I => ?_
 have c3 : ¬ (((cls = 3 ∨ cls = 4) ∧ f.inf = false) ∨ (cls = 5 ∧ f.res = false)) := fun h => by rcases h with ⟨h, k⟩ | ⟨h, k⟩ <;> first | (rw [f43] at k; cases k; done) | (rw [f52] at k; cases k; done) | (have q := beq_iff_eq.1 f35; omega) | (have q := beq_iff_eq.1 f39; omega) | (have q := bnF f35; have q2 := bnF f39; omega) | (have q := bnF f49; omega)
 rcases Bool.eq_false_or_eq_true (cls == 2) with f58 | f58
 · refine zb I 58 (cls == 2) (true) (f58) fun Al W I => ?_
   have c58 : cls = 2 := beq_iff_eq.1 f58
   rcases Bool.eq_false_or_eq_true (decide (a.e < (-20000))) with f61 | f61
   · refine zb I 61 (decide (a.e < (-20000))) (true) (f61) fun Al W I => ?_
     have hE : a0r f cls a = 3 := by unfold a0r; rw [if_neg c1, if_neg (by omega), if_neg c3, if_pos c58, if_pos (by first | (have := oTr f61; omega) | (have := oTr f65; omega))]
     have hN : (3 : Int) ≠ 0 := by decide
     exact zret I fun Al W I => b0a hE hN rfl I.below
   refine zb I 61 (decide (a.e < (-20000))) (false) (f61) fun Al W I => ?_
   rcases Bool.eq_false_or_eq_true (decide (a.e > 20000)) with f65 | f65
   · refine zb I 65 (decide (a.e > 20000)) (true) (f65) fun Al W I => ?_
     have hE : a0r f cls a = 3 := by unfold a0r; rw [if_neg c1, if_neg (by omega), if_neg c3, if_pos c58, if_pos (by first | (have := oTr f61; omega) | (have := oTr f65; omega))]
     have hN : (3 : Int) ≠ 0 := by decide
     exact zret I fun Al W I => b0a hE hN rfl I.below
   refine zb I 65 (decide (a.e > 20000)) (false) (f65) fun Al W I => ?_
   by_cases h70 : a.xs.length = 0
   · by_cases h77 : a0v d f.g = true
     · have c4 : -20000 ≤ a.e ∧ a.e ≤ 20000 := by have := oFa f61; have := oFa f65; omega
       have hb1 := hbd c2 c4
       refine zd [] I fun Al W I => ?_
       refine zk [0, 1, 2] I fun I => ?_
       refine zkb 3 I ((a.xs.length : Int) == 0) (true) (beq_iff_eq.2 (by omega)) fun I => ?_
       refine zk [4, 5, 6, 7, 8, 9, 10, 11, 12] I fun I => ?_
       have hE : a0r f cls a = 4 := by unfold a0r; rw [if_neg c1, if_neg (by omega), if_neg c3, if_pos c58, if_neg (by omega), if_pos (by first | exact .inl h70 | exact .inr (by rw [hD]; simpa using h77))]
       have hN : (4 : Int) ≠ 0 := by decide
       exact zret I fun Al W I => b0a hE hN rfl I.below
     have c4 : -20000 ≤ a.e ∧ a.e ≤ 20000 := by have := oFa f61; have := oFa f65; omega
     have hb1 := hbd c2 c4
     refine zd [] I fun Al W I => ?_
     refine zk [0, 1, 2] I fun I => ?_
     refine zkb 3 I ((a.xs.length : Int) == 0) (true) (beq_iff_eq.2 (by omega)) fun I => ?_
     refine zk [4, 5, 6, 7, 8, 9, 10, 11, 12] I fun I => ?_
     have hE : a0r f cls a = 4 := by unfold a0r; rw [if_neg c1, if_neg (by omega), if_neg c3, if_pos c58, if_neg (by omega), if_pos (by first | exact .inl h70 | exact .inr (by rw [hD]; simpa using h77))]
     have hN : (4 : Int) ≠ 0 := by decide
     exact zret I fun Al W I => b0a hE hN rfl I.below
   by_cases h77 : a0v d f.g = true
   · have c4 : -20000 ≤ a.e ∧ a.e ≤ 20000 := by have := oFa f61; have := oFa f65; omega
     have hb1 := hbd c2 c4
     refine zd [] I fun Al W I => ?_
     refine zk [0, 1, 2] I fun I => ?_
     refine zkb 3 I ((a.xs.length : Int) == 0) (false) (bFn (by omega)) fun I => ?_
     refine zk [4, 5, 6, 8, 9] I fun I => ?_
     refine zo 7 I fun I => ?_
     refine zqo I (fun Al W I => (HR W c2 I.fa.1 c4 I.fa.2.1).out) fun Al W p74 c74 I => ?_
     refine zo 10 I fun I => ?_
     refine zqd I (fun Al W I => have hzW := I.bel.size; p0y d.neg p74 c74 d.e d.m f.g W I.fa.1.rd (by omega) (by omega) (c0a G.g)) (show (h0z ⟨d.neg, d.m, d.e⟩ f.g) = true from hkp.trans h77) fun Al W I => ?_
     refine zk [11, 12] I fun I => ?_
     have hi := hige h77
     refine zd [] I fun Al W I => ?_
     refine zk [0, 1, 2] I fun I => ?_
     refine zo 3 I fun I => ?_
     refine zqo I (fun Al W I => (HR W c2 I.fa.2.1 c4 I.fa.2.2.1).out) fun Al W p83 c83 I => ?_
     refine zo 4 I fun I => ?_
     refine zq I (fun Al W I => have hzW := I.bel.size; b1b f d p83 c83 W G I.fa.1.rd hb1.1 (by omega) h77 (hm0 c2 h70)) fun Al W I => ?_
     refine zk [5, 6] I fun I => ?_
     have hE : a0r f cls a = 0 := by unfold a0r; rw [if_neg c1, if_neg (by omega), if_neg c3, if_pos c58, if_neg (by omega), if_neg (fun h => by rcases h with h | h <;> first | exact h70 h | (rw [hD, h77] at h; cases h; done))]
     exact zret I (v := fun Al => .tuple #[.string (a0c (f.strP (f.numP d))), .int .i64 0]) fun Al W I => d0s hE (by rw [show cls.toNat = 2 by omega, e2]) rfl I.below
   have c4 : -20000 ≤ a.e ∧ a.e ≤ 20000 := by have := oFa f61; have := oFa f65; omega
   have hb1 := hbd c2 c4
   refine zd [] I fun Al W I => ?_
   refine zk [0, 1, 2] I fun I => ?_
   refine zkb 3 I ((a.xs.length : Int) == 0) (false) (bFn (by omega)) fun I => ?_
   refine zk [4, 5, 6, 8, 9] I fun I => ?_
   refine zo 7 I fun I => ?_
   refine zqo I (fun Al W I => (HR W c2 I.fa.1 c4 I.fa.2.1).out) fun Al W p74 c74 I => ?_
   refine zo 10 I fun I => ?_
   refine zqd I (fun Al W I => have hzW := I.bel.size; p0y d.neg p74 c74 d.e d.m f.g W I.fa.1.rd (by omega) (by omega) (c0a G.g)) (show (h0z ⟨d.neg, d.m, d.e⟩ f.g) = false from hkp.trans (by simpa using h77)) fun Al W I => ?_
   refine zk [11, 12] I fun I => ?_
   have hE : a0r f cls a = 4 := by unfold a0r; rw [if_neg c1, if_neg (by omega), if_neg c3, if_pos c58, if_neg (by omega), if_pos (by first | exact .inl h70 | exact .inr (by rw [hD]; simpa using h77))]
   have hN : (4 : Int) ≠ 0 := by decide
   exact zret I fun Al W I => b0a hE hN rfl I.below
 refine zb I 58 (cls == 2) (false) (f58) fun Al W I => ?_
 have c58 : cls ≠ 2 := by first | (have := beq_iff_eq.1 f35; omega) | (have := beq_iff_eq.1 f39; omega) | (have := beq_iff_eq.1 f49; omega) | exact bnF f58
 rcases Bool.eq_false_or_eq_true (decide ((a.xs.length : Int) > 0)) with f88 | f88
 · refine zb I 88 (decide ((a.xs.length : Int) > 0)) (true) (f88) fun Al W I => ?_
   have hE : a0r f cls a = 4 := by unfold a0r; rw [if_neg c1, if_neg (by omega), if_neg c3, if_neg c58, if_pos (by first | (have := oTr f88; omega) | exact .inr (.inl (bne_iff_ne.1 f92)) | exact .inr (.inr ⟨f96, .inr f103⟩) | exact .inr (.inr ⟨f96, .inl (by first | (have := beq_iff_eq.1 f39; omega) | (have := beq_iff_eq.1 f49; omega))⟩))]
   have hN : (4 : Int) ≠ 0 := by decide
   exact zret I fun Al W I => b0a hE hN rfl I.below
 refine zb I 88 (decide ((a.xs.length : Int) > 0)) (false) (f88) fun Al W I => ?_
 rcases Bool.eq_false_or_eq_true (a.e != 0) with f92 | f92
 · refine zb I 92 (a.e != 0) (true) (f92) fun Al W I => ?_
   have hE : a0r f cls a = 4 := by unfold a0r; rw [if_neg c1, if_neg (by omega), if_neg c3, if_neg c58, if_pos (by first | (have := oTr f88; omega) | exact .inr (.inl (bne_iff_ne.1 f92)) | exact .inr (.inr ⟨f96, .inr f103⟩) | exact .inr (.inr ⟨f96, .inl (by first | (have := beq_iff_eq.1 f39; omega) | (have := beq_iff_eq.1 f49; omega))⟩))]
   have hN : (4 : Int) ≠ 0 := by decide
   exact zret I fun Al W I => b0a hE hN rfl I.below
 refine zb I 92 (a.e != 0) (false) (f92) fun Al W I => ?_
 rcases Bool.eq_false_or_eq_true (a.g) with f96 | f96
 · refine zb I 96 (a.g) (true) (f96) fun Al W I => ?_
   refine zb I 100 (decide (cls ≥ 4)) (false) (dFa (by have := bnF f49; have := bnF f35; have := bnF f39; omega)) fun Al W I => ?_
   rcases Bool.eq_false_or_eq_true (f.res) with f103 | f103
   · refine zb I 103 (f.res) (true) (f103) fun Al W I => ?_
     have hE : a0r f cls a = 4 := by unfold a0r; rw [if_neg c1, if_neg (by omega), if_neg c3, if_neg c58, if_pos (by first | (have := oTr f88; omega) | exact .inr (.inl (bne_iff_ne.1 f92)) | exact .inr (.inr ⟨f96, .inr f103⟩) | exact .inr (.inr ⟨f96, .inl (by first | (have := beq_iff_eq.1 f39; omega) | (have := beq_iff_eq.1 f49; omega))⟩))]
     have hN : (4 : Int) ≠ 0 := by decide
     exact zret I fun Al W I => b0a hE hN rfl I.below
   refine zb I 103 (f.res) (false) (f103) fun Al W I => ?_
   have hE : a0r f cls a = 0 := by unfold a0r; rw [if_neg c1, if_neg (by omega), if_neg c3, if_neg c58, if_neg (fun h => by rcases h with h | h | ⟨h, k⟩ <;> first | (have := oFa f88; omega) | (rw [show (a.e != 0) = true from bne_iff_ne.2 h] at f92; cases f92; done) | (rw [f96] at h; cases h; done) | (rcases k with k | k <;> first | (have := beq_iff_eq.1 f35; omega) | (have := bnF f49; have := bnF f35; have := bnF f39; omega) | (rw [f103] at k; cases k; done)))]
   refine zbin I 109 _ (fun _ _ _ _ _ => c0z .i64 (1) .i64 (f.E : Int) ((P : Int)) (by omega) ((HSH.out))) fun Al W I => ?_
   refine zi I 110 .i64 ((P : Int) - 1) (((P - 1 : Nat) : Int)) ((by rw [show ((P : Int) - 1) = ((P - 1 : Nat) : Int) by omega]; exact iwo)) fun Al W I => ?_
   refine zb I 117 (cls == 3) (false) (f35) fun Al W I => ?_
   refine zb I 126 (cls == 4) (false) (f39) fun Al W I => ?_
   refine zb I 142 (cls == 5) (false) (f49) fun Al W I => ?_
   refine zg I (fun Al W I => (hJ0 W a.g 0 0 rfl h0T).out) fun Al V Iv _ hB _ kz => ?_
   rintro _ W ⟨rfl, hb⟩
   have hS : a0c (f.strP (f.encP cls.toNat a.g d)) = a0c (f.str a.g 0 0) := by rw [show cls.toNat = 1 by have := bnF f49; have := bnF f35; have := bnF f39; omega, e1]; rfl
   refine ⟨_, rfl, kz _ _ hb fun I => ?_⟩
   exact zret I fun Al W I => d0s hE hS rfl I.below
 refine zb I 96 (a.g) (false) (f96) fun Al W I => ?_
 have hE : a0r f cls a = 0 := by unfold a0r; rw [if_neg c1, if_neg (by omega), if_neg c3, if_neg c58, if_neg (fun h => by rcases h with h | h | ⟨h, k⟩ <;> first | (have := oFa f88; omega) | (rw [show (a.e != 0) = true from bne_iff_ne.2 h] at f92; cases f92; done) | (rw [f96] at h; cases h; done) | (rcases k with k | k <;> first | (have := beq_iff_eq.1 f35; omega) | (have := bnF f49; have := bnF f35; have := bnF f39; omega) | (rw [f103] at k; cases k; done)))]
 refine zbin I 109 _ (fun _ _ _ _ _ => c0z .i64 (1) .i64 (f.E : Int) ((P : Int)) (by omega) ((HSH.out))) fun Al W I => ?_
 refine zi I 110 .i64 ((P : Int) - 1) (((P - 1 : Nat) : Int)) ((by rw [show ((P : Int) - 1) = ((P - 1 : Nat) : Int) by omega]; exact iwo)) fun Al W I => ?_
 refine zb I 117 (cls == 3) (false) (f35) fun Al W I => ?_
 refine zb I 126 (cls == 4) (false) (f39) fun Al W I => ?_
 refine zb I 142 (cls == 5) (false) (f49) fun Al W I => ?_
 refine zg I (fun Al W I => (hJ0 W a.g 0 0 rfl h0T).out) fun Al V Iv _ hB _ kz => ?_
 rintro _ W ⟨rfl, hb⟩
 have hS : a0c (f.strP (f.encP cls.toNat a.g d)) = a0c (f.str a.g 0 0) := by rw [show cls.toNat = 1 by have := bnF f49; have := bnF f35; have := bnF f39; omega, e1]; rfl
 refine ⟨_, rfl, kz _ _ hb fun I => ?_⟩
 exact zret I fun Al W I => d0s hE hS rfl I.below
end Go.Proofs.YtbamiajjampgnaaGreatDoor
namespace Go.Slip
def b1c (N : Nat) (D : List Nat) (i d A : Nat) : Prop := (∀ x ∈ D, x < 10) ∧ d < 10 ^ (4 - i) ∧ N = val 10 D + 10 ^ D.length * (d + 10 ^ (4 - i) * A)
def o0d (N : Nat) (D : List Nat) (A : Nat) : Prop := (∀ x ∈ D, x < 10) ∧ N = val 10 D + 10 ^ D.length * A
theorem o0d.start (N : Nat) : o0d N [] N := ⟨by simp, by simp⟩
theorem o0d.enter {N : Nat} {D : List Nat} {A : Nat} (h : o0d N D A) : b1c N D 0 (A % 10000) (A / 10000) := by
 refine ⟨h.1, Nat.mod_lt _ (by omega), ?_⟩
 rw [h.2]
 congr 2
 have := Nat.mod_add_div A 10000
 show A = A % 10000 + 10000 * (A / 10000)
 omega
theorem b1c.step {N : Nat} {D : List Nat} {i d A : Nat} (h : b1c N D i d A) (hi : i < 4) : b1c N (D ++ [d % 10]) (i + 1) (d / 10) A := by
 obtain ⟨h1, h2, h3⟩ := h
 have e : 4 - i = 4 - (i + 1) + 1 := by omega
 rw [e, Nat.pow_succ] at h2 h3
 refine ⟨fun x hx => ?_, by omega, ?_⟩
 · rcases List.mem_append.1 hx with hx | hx
   · exact h1 x hx
   · simp at hx; omega
 · rw [h3, e0b, List.length_append, List.length_singleton, Nat.pow_succ]
   have := Nat.mod_add_div d 10
   generalize d % 10 = s at *
   generalize d / 10 = q at *
   subst this
   grind
theorem b1c.leave {N : Nat} {D : List Nat} {d A : Nat} (h : b1c N D 4 d A) : o0d N D A := by
 obtain ⟨h1, h2, h3⟩ := h
 have hd : d = 0 := by simpa using h2
 subst hd
 exact ⟨h1, by rw [h3]; simp⟩
theorem o0d.size {N : Nat} {D : List Nat} {A : Nat} (h : o0d N D A) (hA : 0 < A) : D.length ≤ 16 * (dig B16 N).length := by
 have h1 : 10 ^ D.length ≤ N := by
  rw [h.2]
  have := Nat.le_mul_of_pos_right (10 ^ D.length) hA
  omega
 have h2 := (a0f a0g N _).1 (Nat.le_refl _)
 have h3 : B16 ^ (dig B16 N).length = 2 ^ (16 * (dig B16 N).length) := by rw [Nat.pow_mul]; congr 1
 have h4 : 2 ^ D.length ≤ 10 ^ D.length := Nat.pow_le_pow_left (by omega) _
 have h5 : 2 ^ D.length < 2 ^ (16 * (dig B16 N).length) := by rw [← h3]; omega
 exact Nat.le_of_lt ((Nat.pow_lt_pow_iff_right (by omega)).1 h5)
end Go.Slip
namespace Go.Proofs.YtbamiajjampgnaaGreatDoor
open Go.RowKit Go.Slip
theorem o0e (N : Nat) (w : World) (hN : N ≤ 9223372036854775807) :
 Calls Tryz.prog 95 #[.int .i64 N] w (i0c w .i64 (dig B16 N)) := by
 have hlN : (dig B16 N).length ≤ 4 := (a0f a0g N 4).2 (by unfold B16; omega)
 go_enter Tryz.func95, Tryz.ntmps95
 go_wp2
 go_loopg [0, 3] N (fun g nv ov wr => ∃ (m : Nat) (t : Option Addr) (e : Nat) (O : List Nat), nv = .int .i64 m ∧ ov = .slice t O.length e ∧ m ≤ g ∧ m ≤ 9223372036854775807 ∧ Hid (O ++ dig B16 m = dig B16 N) ∧
     Own wr w.heap.size .i64 3 t e O ∧ Below w.heap.size w wr)
 case atStart => exact ⟨N, none, 0, [], rfl, rfl, Nat.le_refl _, hN, rfl, Own.nil _ _ _ _, Below.refl _ _⟩
 case round =>
  obtain ⟨m, t, e, O, rfl, rfl, hg, hm, HR, hoq, hb⟩ := hrel
  have hOl : O.length ≤ 4 := by have := congrArg List.length HR.out; rw [List.length_append] at this; omega
  by_cases h0 : 0 < m
  · have HS : Hid ((O ++ [m % B16]) ++ dig B16 (m / B16) = dig B16 N) := by
     show _ = _
     rw [← HR.out, d0b a0g h0, List.append_assoc]; rfl
    go_wp2_with (first
      | (refine a0u rfl _ _ rfl tyN _ ?_ rfl ?_; omega; intro p2 w2 ho2 hb2 hz2 hp2)
      | (at_builtin; refine a0x rfl _ _ _ rfl tyN _ _ _ _ _ (hoq.past hb2) rfl _ _ _ _ ho2.rd rfl rfl rfl ?_ ?_ ?_; (simp; omega); (have := hb2.size; have := hb.size; omega); intro p3 c3 w3 ho3 hg3 hb3 hn3))
    have hb4 := hb.trans ((hb2.mono hb.size).trans hb3)
    have e4 : ((m : Int) % 65536).toNat = m % B16 := by unfold B16; omega
    rw [e4] at ho3
    go_roundg (m / 65536)
    case measure => omega
    case rel => exact ⟨m / 65536, p3, c3, _, by go_num, by simp, Nat.le_refl _, by omega, HS, ho3, hb4⟩
  · obtain rfl : m = 0 := by omega
    have HD : Hid (O = dig B16 N) := by show _ = _; rw [← HR.out, a0d, List.append_nil]
    go_wp2
    go_ret
    exact t0y HD.out rfl hoq hb
theorem o0v (s : ByteArray) (hd : y0e s) (k : Nat) (hk : k ≤ s.size) : (dig B16 (a0k ((a0b s).take k))).length ≤ k := by
 rw [a0f a0g]
 have h1 := g0b ((a0b s).take k) (fun j hj => by
   rw [List.length_take, a0z] at hj
   rw [e0z (by omega)]
   exact (hd j (by omega)).2)
 rw [List.length_take, a0z, Nat.min_eq_left hk] at h1
 exact Nat.lt_of_lt_of_le h1 (Nat.pow_le_pow_left (by unfold B16; omega) k)
theorem s0k : dig B16 10 = [10] := n0u a0g (by omega) (by unfold B16; omega)
theorem m0c (s : ByteArray) (w : World) (hs : s.size ≤ 100000000) (hd : y0e s) :
 Calls Tryz.prog 52 #[.string s] w (i0c w .i64 (dig B16 (a0k (a0b s)))) := by
 have HD := hi0 hd
 have HT := hi0 (a0z s)
 clear hd
 go_enter Tryz.func52, Tryz.ntmps52
 go_wp2
 go_loopg [3, 4] s.size (fun g av iv wr => ∃ (k : Nat) (t : Option Addr) (e : Nat) (a : Nat), iv = .int .i64 k ∧ av = .slice t (dig B16 a).length e ∧ g + k = s.size ∧ Hid (a = a0k ((a0b s).take k)) ∧
     Rd wr .i64 t (dig B16 a) ∧ (dig B16 a).length ≤ e ∧ (0 < (dig B16 a).length → w.heap.size ≤ blk t) ∧ Below w.heap.size w wr)
 case atStart => exact ⟨0, none, 0, 0, rfl, by rw [a0d]; rfl, by omega, (show 0 = a0k (List.take 0 _) by simp [a0k]), by rw [a0d]; exact Rd.nil _ _ _, by rw [a0d]; simp, by rw [a0d]; simp, Below.refl _ _⟩
 case round =>
  obtain ⟨k, t, e, a, rfl, rfl, hg, HA, hr, hc, hbk, hb⟩ := hrel
  have hal : (dig B16 a).length ≤ k := by rw [HA.out]; exact o0v s HD.out k (by omega)
  by_cases hlt : k < s.size
  · have hgt := p0i s k hlt
    obtain ⟨hv1, hv2⟩ := HD.out k hlt
    obtain ⟨v, hv⟩ : ∃ v, dg (a0b s) k = v + 48 := ⟨dg (a0b s) k - 48, by omega⟩
    have HN : Hid (10 * a + v = a0k ((a0b s).take (k + 1))) := by
     show _ = _
     rw [e0c _ _ (by rw [HT.out]; exact hlt), ← HA.out, hv]; omega
    rw [hv] at hgt
    have hv9 : v ≤ 9 := by omega
    clear hv hv1 hv2
    have hml := b0q a0g a 10
    rw [s0k] at hml
    simp only [List.length_singleton] at hml
    have hvl : (dig B16 v).length ≤ 1 := (a0f a0g v 1).2 (by unfold B16; omega)
    have hvB : v ≤ 9223372036854775807 := by omega
    have hTB : (dig B16 a).length + (dig B16 10).length ≤ 1000000000 := by rw [s0k]; simp; omega
    have hPB : (dig B16 (a * 10)).length + (dig B16 v).length ≤ 1000000000 := by omega
    have e0 : IntKind.i64.wrap ((v : Int) + 48) = (v : Int) + 48 := iwo
    have e1 : IntKind.i64.wrap ((v : Int) + 48 - 48) = (v : Int) := by rw [show (v : Int) + 48 - 48 = v by omega]; exact iwo
    have e2 : IntKind.i64.wrap (v : Int) = (v : Int) := iwo
    have hten : Rd (wr.alloc (.cells #[.int .i64 10] 3)).drew .i64 (some ⟨wr.heap.size, 0, none⟩) (dig B16 10) := by rw [s0k]; exact (l1a wr .i64 3 10 (by decide)).drew.rd
    have hrt := (hr.laid (.cells #[.int .i64 10] 3)).drew
    have hone := hi0 (show 1 = (dig B16 10).length by rw [s0k]; rfl)
    have i0 : (0 : Int) ≤ (k : Int) := by omega
    have i1 : (k : Int) < (s.size : Int) := by omega
    go_wp2_with fail
    go_region_held3 (fun w' => True) (exact trivial)
     (first
       | (go_at_call 95; refine (o0e v _ hvB).mono ?_; rintro e4 w4 ⟨p4, c4, rfl, ho4, -, -, hb4⟩)
       | (go_at_call 75; refine (w0r p3 p4 _ _ c3 c4 (a * 10) v _ (ho3.past hb4) ho4 rfl rfl hPB).mono ?_; rintro e5 w5 ⟨p5, c5, rfl, ho5, hc5, hn5, hb5⟩)
       | (go_at_call 53; refine (i0d t (some ⟨wr.heap.size, 0, none⟩) (dig B16 a).length 1 e 1 a 10 (wr.alloc (.cells #[.int .i64 10] 3)).drew hrt hten rfl hone.out hTB).mono ?_; rintro e3 w3 ⟨p3, c3, rfl, ho3, -, -, hb3⟩))
    all_goals
     have hA := hb.trans (((Below.refl w.heap.size wr).alloc hb.size (.cells #[.int .i64 10] 3)).drew)
     have h3 := hA.trans (hb3.mono hA.size)
     have h4 := h3.trans (hb4.mono h3.size)
     have h5 := h4.trans (hb5.mono h4.size)
     clear e0 e1 e2 hten hrt hb3 hb4 hb5
     rw [Nat.mul_comm a 10] at ho5 hc5 hn5 ⊢
     go_wp2
     go_roundg (s.size - 1 - k)
     case measure => omega
     case rel => exact ⟨k + 1, p5, c5, 10 * a + v, by go_num, rfl, by omega, HN, ho5, hc5, fun h => Nat.le_trans h4.size (hn5 h), h5⟩
  · obtain rfl : k = s.size := by omega
    have HE : Hid (a = a0k (a0b s)) := by
     show _ = _
     rw [HA.out, List.take_of_length_le (by rw [HT.out]; exact Nat.le_refl _)]
    go_wp2
    go_ret
    rw [← HE.out]
    exact ⟨t, e, rfl, hr, hc, hbk, hb⟩
theorem _root_.Go.Slip.SmallRel.skip {B : Nat} {L xs : List Nat} {d k r : Nat} (h : SmallRel B L xs d (k + 1) r) (hk : k < xs.length) (hL : k < L.length) (hx : dg xs k < B) (hz : dg L k = 0) (hlt : r * B + dg xs k < d) : SmallRel B L xs d k (r * B + dg xs k) := by
 have h1 := (h.step hk hL hx).1
 rw [Nat.div_eq_of_lt hlt, Nat.mod_eq_of_lt hlt, g1s L k hz] at h1
 exact h1
theorem o0f {B R j : Nat} : R / B ^ j = B * (R / B ^ (j + 1)) + R / B ^ j % B := by
 rw [Nat.pow_succ, ← Nat.div_div_eq_div_mul, Nat.div_add_mod]
theorem f1p {B : Nat} (hB : 2 ≤ B) (R j : Nat) : dg (dig B R) j = R / B ^ j % B := by
 have h1 := h0v (B := B) (by omega) (dig B R) (b0i hB R) j
 have h2 := f0q B (dig B R) j
 rw [b0b hB] at h1
 rw [h1] at h2
 rw [h2, Nat.add_mul_mod_self_left, Nat.mod_eq_of_lt (a0l (by omega) _ (b0i hB R) j)]
theorem j1g {R n k tp : Nat} (hk : k ≤ n) (h : tp = R / B16 ^ (n + 1 - k)) : 65536 * tp + dg (dig B16 R) (n - k) = R / B16 ^ (n - k) := by
 rw [f1p a0g, h, show n + 1 - k = n - k + 1 by omega]
 exact (o0f (B := B16)).symm
theorem q1l {R n k : Nat} (hk : k ≤ n + 1) (h : R < B16 ^ (n + 1)) : R / B16 ^ (n + 1 - k) < B16 ^ k := by
 rw [Nat.div_lt_iff_lt_mul (Nat.pow_pos e0f), ← Nat.pow_add, show k + (n + 1 - k) = n + 1 by omega]
 exact h
theorem f1q {b n : Nat} (h2 : (dig B16 b).length = n + 2) : dg (dig B16 b) (n + 1) * 65536 + dg (dig B16 b) n = b / B16 ^ n ∧ B16 ≤ b / B16 ^ n := by
 have hb : b < B16 ^ (n + 2) := (a0f a0g b _).1 (by omega)
 have h0 : 0 < b := by
  have := a0e a0g b
  omega
 have h1 := d0c a0g b h0
 rw [h2] at h1
 have e1 : b / B16 ^ (n + 2) = 0 := Nat.div_eq_of_lt hb
 have e2 : b / B16 ^ n = B16 * (b / B16 ^ (n + 1)) + b / B16 ^ n % B16 := o0f
 have e3 : b / B16 ^ (n + 1) = B16 * (b / B16 ^ (n + 2)) + b / B16 ^ (n + 1) % B16 := o0f
 rw [f1p a0g, f1p a0g]
 have e4 : b / B16 ^ (n + 1) % B16 = b / B16 ^ (n + 1) := by rw [e1] at e3; omega
 refine ⟨by rw [e4, show (65536 : Nat) = B16 from rfl, Nat.mul_comm]; exact e2.symm, ?_⟩
 rw [Nat.le_div_iff_mul_le (Nat.pow_pos e0f), Nat.mul_comm, ← Nat.pow_succ]
 exact h1
theorem u0k (p q : Option Addr) (n m c e0 : Nat) (a b nn : Nat) (w : World) (hp : Rd w .i64 p (dig B16 a)) (hq : Rd w .i64 q (dig B16 b)) (hn : n = (dig B16 a).length) (hm : m = (dig B16 b).length)
 (hl : (dig B16 a).length ≤ 100000000) (hl2 : (dig B16 b).length ≤ 100000000) (h2 : (dig B16 b).length = nn + 2) :
 Calls Tryz.prog 54 #[.slice p n c, .slice q m e0] w (w0l w .i64 (dig B16 (a / b)) (dig B16 (a % b))) := by
 subst hn hm
 have HA := hi0 (b0b a0g a)
 have HXL := hi0 (b0i a0g a)
 generalize dig B16 a = xs at *
 obtain ⟨hun, hub⟩ := f1q h2
 obtain ⟨ys, hys⟩ : ∃ ys, ys = dig B16 b := ⟨_, rfl⟩
 rw [← hys] at hq hl2 h2 hun ⊢
 obtain ⟨b1, hb1⟩ : ∃ b1, dg ys (nn + 1) = b1 := ⟨_, rfl⟩
 obtain ⟨b0, hb0⟩ : ∃ b0, dg ys nn = b0 := ⟨_, rfl⟩
 rw [hb1, hb0] at hun
 have hb1l : b1 < 65536 := by rw [← hb1, hys]; exact a0l (B := 65536) (by omega) _ (b0i a0g b) _
 have hb0l : b0 < 65536 := by rw [← hb0, hys]; exact a0l (B := 65536) (by omega) _ (b0i a0g b) _
 obtain ⟨un, hunn⟩ : ∃ un, un = b1 * 65536 + b0 := ⟨_, rfl⟩
 rw [← hunn] at hun
 have hul : un < 4294967296 := by omega
 have HUN := hi0 hun
 have HUB := hi0 (show B16 ≤ un by rw [hun]; exact hub)
 have eun : (b1 : Int) * 65536 + (b0 : Nat) = (un : Nat) := by omega
 have HYS := hi0 hys
 have HN := hi0 h2
 have y2 : 2 ≤ ys.length := by omega
 have hsx := hp.solid
 have hsy := hq.solid
 have t1 : ((ys.length : Int) == 1) = false := bFn (by omega)
 have hcb1 := hq.cells (ys.length - 1) (by omega)
 have hcb0 := hq.cells (ys.length - 2) (by omega)
 rw [show ys.length - 1 = nn + 1 by omega, hb1, show nn + 1 = ys.length - 1 by omega] at hcb1
 rw [show ys.length - 2 = nn by omega, hb0, show nn = ys.length - 2 by omega] at hcb0
 have HB : Hid (0 < b) := by
  have := a0e a0g b
  rw [← hys] at this
  show 0 < b
  omega
 have HBL := hi0 (show b < B16 ^ (nn + 2) from (a0f a0g b _).1 (by rw [← hys]; omega))
 clear hys h2 hun hub hunn hb1 hb0
 go_enter Tryz.func54, Tryz.ntmps54
 go_wp2_with (refine i0l rfl _ _ _ rfl tyN .i64 .i64 xs.length _ _ rfl rfl ?_ ?_ ?_ ?_; omega; omega; omega; intro p1 c1 w1 ho1 hb1 hz1)
 have hsz1 := hb1.size
 have hp1l : p1.isSome = true → blk p1 < w1.heap.size := fun h => (ho1.blk_lt h).2
 go_loopw [10, 11] (fun rv iv wr => ∃ (k r : Nat) (L : List Nat) (pr : Option Addr) (cr : Nat), iv = .int .i64 ((k : Int) - 1) ∧ rv = .slice pr (dig B16 r).length cr ∧ k ≤ xs.length ∧ Hid (L.length = xs.length) ∧ Rd wr .i64 pr (dig B16 r) ∧ (dig B16 r).length ≤ cr ∧
     (0 < (dig B16 r).length → w1.heap.size ≤ blk pr) ∧ Own wr w.heap.size .i64 3 p1 c1 L ∧ Below w.heap.size w wr ∧ w1.heap.size ≤ wr.heap.size ∧ Hid (SmallRel B16 L xs b k r ∧ ∀ i, i < k → dg L i = 0))
  (fun _ iv _ => (intOf iv + 1).toNat)
 case atStart => exact ⟨xs.length, 0, _, none, 0, rfl, by rw [a0d]; rfl, Nat.le_refl _, List.length_replicate, by rw [a0d]; exact Rd.nil _ _ _, by rw [a0d]; simp, by rw [a0d]; simp, ho1, hb1, Nat.le_refl _,
   ⟨⟨fun x hx => by rw [(List.mem_replicate.1 hx).2]; exact e0f, HB.out, by simp⟩, fun i _ => c0p _ _⟩⟩
 case round =>
  obtain ⟨k, r, L, pr, cr, rfl, rfl, hk, hL, hrr, hrc, hrb, hoL, hbL, hszL, HR⟩ := hrel
  have hpL := hp.past hbL
  have hqL := hq.past hbL
  by_cases h0 : 0 < k
  · obtain ⟨j, rfl⟩ : ∃ j, k = j + 1 := ⟨k - 1, by omega⟩
    have ej : ((j + 1 : Nat) : Int) - 1 = j := by omega
    rw [ej]
    have hc1 := hpL.cells j (by omega)
    have hxd := a0l (B := 65536) (by omega) xs HXL.out j
    obtain ⟨x, hx⟩ : ∃ x, dg xs j = x := ⟨_, rfl⟩
    rw [hx] at hc1 hxd
    obtain ⟨R, hRR⟩ : ∃ R, R = r * B16 + x := ⟨_, rfl⟩
    have HX := hi0 hx
    have HRR := hi0 hRR
    have hrl : (dig B16 r).length ≤ ys.length := by rw [HYS.out]; exact a0m a0g (Nat.le_of_lt HR.out.1.2.1)
    have HLD : Hid (∀ y ∈ [x] ++ dig B16 r, y < B16) := by
     intro y hy
     rcases List.mem_append.1 hy with h | h
     · simp at h; rw [h]; exact hxd
     · exact b0i a0g r y h
    have HVR : Hid (val B16 ([x] ++ dig B16 r) = R) := by
     show val B16 ([x] ++ dig B16 r) = R
     rw [List.singleton_append, val_cons, b0b a0g, hRR, Nat.mul_comm B16 r]; omega
    have HRB := hi0 (show R < b * B16 by have := HR.out.1.push (by rw [hx]; exact hxd); rw [hRR, ← hx, Nat.mul_comm r B16]; omega)
    clear hx hRR ej
    have hxs := hsx
    go_wp2_with (first
      | (refine a0u rfl _ _ rfl tyN _ ?_ rfl ?_; omega; intro p2 w2 ho2 hb2 hz2 hp2)
      | (at_builtin; rw [Int.toNat_natCast] at ho2; refine a0x rfl _ _ _ rfl tyN _ _ _ _ _ ho2 rfl _ _ _ _ (hrr.past hb2) rfl rfl rfl ?_ ?_ ?_; (simp; omega); (have := hb2.size; omega); intro p3 c3 w3 ho3 hg3 hb3 hn3))
    refine (d0u p3 _ c3 ([x] ++ dig B16 r) _ ho3.rd rfl ho3.le_cap HLD.out (by simp; omega)).mono ?_
    rintro e w4 ⟨rfl, rfl⟩
    rw [HVR.out]
    have hrt := ho3.take (dig B16 (val B16 ([x] ++ dig B16 r))).length
    rw [b0g a0g _ HLD.out, HVR.out] at hrt
    have hrn : 0 < (dig B16 R).length → w1.heap.size ≤ blk p3 := fun h => by
     have := (hrt.blk_lt (hrt.rd.solid h).1).1
     omega
    have hb23 := hb2.trans hb3
    have hoL3 := hoL.past hb23
    have hs3 := hbL.trans (hb23.mono hbL.size)
    have hsz3 : w1.heap.size ≤ w3.heap.size := Nat.le_trans hszL hb23.size
    have hrR := hrt.rd
    have hrl2 : (dig B16 R).length ≤ ys.length + 1 := by
     rw [a0f a0g, HN.out, show nn + 2 + 1 = (nn + 2) + 1 by omega, Nat.pow_succ]
     exact Nat.lt_of_lt_of_le HRB.out (Nat.mul_le_mul_right _ (Nat.le_of_lt HBL.out))
    clear hb2 hb3 hz2 hp2 ho2 ho3 hg3 hn3 hb23 hrt hrr hrc hrb hoL hbL hszL hpL hc1
    have hq3 := hq.past hs3
    have hq3b : Rd w3 .i64 q (dig B16 b) := by rw [← HYS.out]; exact hq3
    have lyb := hi0 (show ys.length = (dig B16 b).length by rw [← HYS.out])
    have lyb2 : (dig B16 b).length ≤ 100000000 := by rw [← HYS.out]; exact hl2
    go_wp2_with fail
    refine (p0u p3 q _ _ _ e0 R b _ hrR hq3b rfl lyb.out (by omega) (by omega)).mono ?_
    rintro e w5 ⟨rfl, hb5⟩
    have hrR := hrR.past hb5
    have hoL5 := hoL3.past hb5
    have hs5 := hs3.trans (hb5.mono hs3.size)
    have hsz5 : w1.heap.size ≤ w5.heap.size := Nat.le_trans hsz3 hb5.size
    have hsb5 := hs5.size
    have hq5 := hq.past hs5
    clear hb5 hoL3 hs3 hsz3 hq3 hq3b
    by_cases hRb : R < b
    · have hC : cmpN R b ≤ -1 := by rw [j0i hRb]; omega
      have HS : Hid (SmallRel B16 L xs b j R ∧ ∀ i, i < j → dg L i = 0) := by
       have h := HR.out.1.skip (by omega) (by rw [hL.out]; omega) (by rw [HX.out]; exact hxd) (HR.out.2 j (by omega)) (by rw [HX.out, ← HRR.out]; exact hRb)
       rw [HX.out, ← HRR.out] at h
       exact ⟨h, fun i hi => HR.out.2 i (by omega)⟩
      clear hRb
      go_wp2_with fail
      go_roundw
      case rel => exact ⟨j, R, L, p3, _, rfl, rfl, by omega, hL, hrR, Nat.le_refl _, hrn, hoL5, hs5, hsz5, HS⟩
      case measure => first | (simp [intOf]; done) | (simp [intOf]; omega)
    · have hC : 0 ≤ cmpN R b := by unfold cmpN; rw [if_neg hRb]; split <;> omega
      have HRb := hi0 hRb
      have hsr := hrR.solid
      have c1 := hq5.cells (ys.length - 1) (by omega)
      have c0 := hq5.cells (ys.length - 2) (by omega)
      have i1 := (hq.cells (ys.length - 1) (by omega)).symm.trans hcb1
      have i0 := (hq.cells (ys.length - 2) (by omega)).symm.trans hcb0
      simp only [Option.some.injEq, Value.int.injEq, true_and] at i1 i0
      rw [i1] at c1
      rw [i0] at c0
      clear i1 i0 hRb
      have f1 : (0 : Int) ≤ (ys.length : Int) - 1 := by omega
      have f2 : (ys.length : Int) - 1 < (ys.length : Int) := by omega
      have f3 : (0 : Int) ≤ (ys.length : Int) - 2 := by omega
      have f4 : (ys.length : Int) - 2 < (ys.length : Int) := by omega
      have e1 : IntKind.i64.wrap ((ys.length : Int) - 1) = (ys.length : Int) - 1 := iwo
      have e2 : IntKind.i64.wrap ((ys.length : Int) - 2) = (ys.length : Int) - 2 := iwo
      have e3 : ((ys.length : Int) - 1).toNat = ys.length - 1 := by omega
      have e4 : ((ys.length : Int) - 2).toNat = ys.length - 2 := by omega
      have e5 : IntKind.i64.wrap ((b1 : Int) * 65536) = (b1 : Int) * 65536 := iwo
      have e6 : IntKind.i64.wrap (un : Int) = (un : Int) := iwo
      go_wp2_with fail
      go_quiet (fail)
      clear f1 f2 f3 f4 e1 e2 e3 e4 e5 e6 c1 c0
      have hrR := hrR.drewN nq
      have hoL6 := hoL5.drewN nq
      have hs6 := below_drewN hs5 nq
      have hq6 := hq5.drewN nq
      have hsz6 : w1.heap.size ≤ (w5.drewN nq).heap.size := hsz5
      generalize w5.drewN nq = w6 at *
      clear hoL5 hs5 hq5 hsz5 hsb5
      go_wp2_with fail
      have HRn := hi0 (show R < B16 ^ (ys.length + 1) by rw [HN.out, Nat.pow_succ]; exact Nat.lt_of_lt_of_le HRB.out (Nat.mul_le_mul_right _ (Nat.le_of_lt HBL.out)))
      go_loop [12, 14] (fun tv kv => ∃ (kk tp : Nat), kv = .int .i64 kk ∧ tv = .int .i64 tp ∧ kk ≤ 3 ∧ tp < 281474976710656 ∧ (kk < 3 → tp < 4294967296) ∧ Hid (tp = R / B16 ^ (ys.length + 1 - kk))) (fun _ kv => 3 - (intOf kv).toNat)
      case atStart => exact ⟨0, 0, rfl, rfl, by omega, by omega, fun _ => by omega, (show 0 = R / B16 ^ (ys.length + 1 - 0) from (Nat.div_eq_of_lt HRn.out).symm)⟩
      case round =>
       obtain ⟨kk, tp, rfl, rfl, hkk, htp, htp2, HT⟩ := hrel
       by_cases hk3 : kk < 3
       · have htp3 := htp2 hk3
         obtain ⟨dd, hdd⟩ : ∃ dd, dg (dig B16 R) (ys.length - kk) = dd := ⟨_, rfl⟩
         have hstep := j1g (R := R) (n := ys.length) (k := kk) (by omega) HT.out
         rw [hdd] at hstep
         have hlt := q1l (R := R) (n := ys.length) (k := kk + 1) (by omega) HRn.out
         rw [show ys.length + 1 - (kk + 1) = ys.length - kk by omega, ← hstep] at hlt
         have hlt3 : 65536 * tp + dd < 281474976710656 := Nat.lt_of_lt_of_le hlt (Nat.le_trans (Nat.pow_le_pow_right e0f (show kk + 1 ≤ 3 by omega)) (by decide))
         have hlt2 : kk + 1 < 3 → 65536 * tp + dd < 4294967296 := fun h => Nat.lt_of_lt_of_le hlt (Nat.le_trans (Nat.pow_le_pow_right e0f (show kk + 1 ≤ 2 by omega)) (by decide))
         have HS : Hid (65536 * tp + dd = R / B16 ^ (ys.length + 1 - (kk + 1))) := by rw [show ys.length + 1 - (kk + 1) = ys.length - kk by omega]; exact hstep
         have hddl : dd < 65536 := by rw [← hdd]; exact a0l (B := 65536) (by omega) _ (b0i a0g R) _
         have g1 : (0 : Int) ≤ (ys.length : Int) - (kk : Int) := by omega
         have g3 : ((ys.length : Int) - (kk : Int)).toNat = ys.length - kk := by omega
         clear hlt hstep
         by_cases hat : ys.length - kk < (dig B16 R).length
         · have hcr := hrR.cells (ys.length - kk) hat
           rw [hdd] at hcr
           have g2 : (ys.length : Int) - (kk : Int) < ((dig B16 R).length : Int) := by omega
           have HL2 := hi0 hlt2
           clear hat hdd hlt2 htp2
           go_wp2_with fail
           go_round
           case rel => exact ⟨kk + 1, 65536 * tp + dd, by go_num, by go_num, by omega, hlt3, HL2.out, HS⟩
           case measure => simp [intOf]; omega
         · have hd0 : dd = 0 := by rw [← hdd]; exact b0r (by omega)
           subst hd0
           have g2 : ((dig B16 R).length : Int) ≤ (ys.length : Int) - (kk : Int) := by omega
           have HL2 := hi0 hlt2
           clear hat hdd hlt2 htp2
           go_wp2_with fail
           go_round
           case rel => exact ⟨kk + 1, 65536 * tp + 0, by go_num, by go_num, by omega, hlt3, HL2.out, HS⟩
           case measure => simp [intOf]; omega
       · obtain rfl : kk = 3 := by omega
         have hT : tp = R / B16 ^ nn := by have := HT.out; rw [HN.out, show nn + 2 + 1 - 3 = nn by omega] at this; exact this
         obtain ⟨ht1, ht2⟩ := z0y (P := B16 ^ nn) (Nat.pow_pos e0f) (by rw [← HUN.out]; exact HUB.out) HRB.out
         rw [← hT, ← HUN.out] at ht1 ht2
         have hqd : R / b < 65536 := by rw [Nat.div_lt_iff_lt_mul HB.out, Nat.mul_comm]; exact HRB.out
         obtain ⟨xq, hxq⟩ : ∃ xq, xq = tp / (un + 1) := ⟨_, rfl⟩
         obtain ⟨qd, hqq⟩ : ∃ qd, qd = R / b := ⟨_, rfl⟩
         rw [← hxq, ← hqq] at ht1 ht2
         rw [← hqq] at hqd
         have ex : (tp : Int) / ((un : Int) + 1) = (xq : Nat) := by rw [hxq]; rfl
         have HQD := hi0 hqq
         have hu1 : (1 : Int) ≤ (un : Int) + 1 := by omega
         clear hT hxq hqq hk3 htp2
         go_wp2_with fail
         obtain ⟨d0, hd0⟩ : ∃ d0 : Nat, (d0 : Int) = min 65535 (max 0 ((xq : Int) - 1) + 4) := ⟨(min 65535 (max 0 ((xq : Int) - 1) + 4)).toNat, by omega⟩
         have hd1 : qd ≤ d0 := by omega
         have hd2 : d0 ≤ 65535 := by omega
         have HD0 := hi0 hd0
         clear hd0 ex ht1 ht2 hu1
         go_loopg [10, 17] d0 (fun g rv dv wr2 => ∃ (d : Nat), d = g ∧ rv = .slice p3 (dig B16 R).length (dig B16 R).length ∧ dv = .int .i64 d ∧ qd ≤ d ∧ d ≤ 65535 ∧ Below w6.heap.size w6 wr2)
         case atStart => exact ⟨d0, rfl, rfl, congrArg (Value.int .i64) HD0.out.symm, hd1, hd2, Below.refl _ _⟩
         case round =>
          obtain ⟨d, rfl, rfl, rfl, hqd1, hdl, hb7⟩ := hrel
          have ld : (dig B16 d).length ≤ 1 := (a0f a0g d 1).2 (by unfold B16; omega)
          have lbd : (dig B16 (b * d)).length ≤ 100000001 := by have := b0q a0g b d; omega
          go_wp2_with fail
          ((with_reducible refine (o0e d _ (by omega)).mono ?_))
          rintro e w8 ⟨p8, c8, rfl, hr8, -, -, hb8⟩
          have hs8 := hb7.trans (hb8.mono hb7.size)
          have hq8 : Rd w8 .i64 q (dig B16 b) := by rw [← HYS.out]; exact hq6.past hs8
          clear hb7 hb8
          go_wp2_with fail
          ((with_reducible refine (i0d q p8 _ _ e0 c8 b d _ hq8 hr8 lyb.out rfl (by omega)).mono ?_))
          rintro e w9 ⟨p9, c9, rfl, hr9, -, -, hb9⟩
          have hs9 := hs8.trans (hb9.mono hs8.size)
          clear hs8 hb9 hr8 hq8
          go_wp2_with fail
          ((with_reducible refine (p0u p9 p3 _ _ c9 _ (b * d) R _ hr9 (hrR.past hs9) rfl rfl (by omega) (by omega)).mono ?_))
          rintro e w10 ⟨rfl, hb10⟩
          have hs10 := hs9.trans (hb10.mono hs9.size)
          have hr10 := hr9.past hb10
          have hrR10 := hrR.past hs10
          clear hs9 hb10 hr9
          by_cases hle : b * d ≤ R
          · have hC2 : cmpN (b * d) R ≤ 0 := by unfold cmpN; split; omega; rw [if_neg (by omega)]; omega
            have hdq : d = qd := by
             have : d ≤ qd := by rw [HQD.out, Nat.le_div_iff_mul_le HB.out, Nat.mul_comm]; exact hle
             omega
            have HMM := hi0 (show R - b * d = R % b by rw [hdq, HQD.out]; have := Nat.div_add_mod R b; omega)
            have HS : Hid (SmallRel B16 (L.set j d) xs b j (R % b) ∧ ∀ i, i < j → dg (L.set j d) i = 0) := by
             have h := (HR.out.1.step (by omega) (by rw [hL.out]; omega) (by rw [HX.out]; exact hxd)).1
             rw [HX.out, ← HRR.out, ← HQD.out, ← hdq] at h
             exact ⟨h, fun i hi => by rw [b0s (by omega)]; exact HR.out.2 i (by omega)⟩
            have HLE := hi0 hle
            clear hdq hle
            go_wp2_with fail
            ((with_reducible refine (w0t p3 p9 _ _ _ c9 R (b * d) _ hrR10 hr10 rfl rfl (by omega) HLE.out).mono ?_))
            rw [HMM.out]
            rintro e w11 ⟨p11, c11, rfl, hr11, hl11, hk11, hb11⟩
            have hs11 := hs10.trans (hb11.mono hs10.size)
            have hk12 : 0 < (dig B16 (R % b)).length → w1.heap.size ≤ blk p11 := fun h => by
             have := hk11 h
             have := hs10.size
             omega
            have hoL11 := hoL6.past hs11
            have hbw11 := hs6.trans (hs11.mono hs6.size)
            have hsz11 : w1.heap.size ≤ w11.heap.size := Nat.le_trans hsz6 hs11.size
            have hsL := hoL11.solid
            rw [hL.out] at hsL
            have hjL : j < L.length := by rw [hL.out]; omega
            have hps := hi0 (hoL11.rd.solid (by omega)).1
            clear hs10 hb11 hrR10 hr10 hk11 hC2
            go_wp2_with (refine b0c rfl _ _ _ rfl 3 tyN _ _ _ _ hoL11 j hjL _ ?_ rfl rfl ?_; omega; intro w12 ho12 hg12 hb12)
            rw [Int.toNat_natCast] at ho12
            have hz12 := hg12.size
            go_roundw
            case rel => exact ⟨j, R % b, _, p11, c11, rfl, rfl, by omega, (by show (List.set _ _ _).length = _; rw [List.length_set]; exact hL.out), hr11.written hg12 (fun h0 h1 => by have := hk12 h0; have := hp1l h1; omega) hps.out, hl11, hk12, ho12, hbw11.trans hb12, Nat.le_trans hsz11 hz12, HS⟩
            case measure => first | (simp [intOf]; done) | (simp [intOf]; omega)
          · have hC2 : 1 ≤ cmpN (b * d) R := by rw [m0r (by omega)]; omega
            have hd1 : qd ≤ d - 1 ∧ 1 ≤ d := by
             have : qd ≠ d := by
              intro h
              have h1 := Nat.div_mul_le_self R b
              rw [← HQD.out, h, Nat.mul_comm] at h1
              exact hle h1
             omega
            obtain ⟨hd3, hd4⟩ := hd1
            have ed : (d : Int) - 1 = ((d - 1 : Nat) : Int) := by omega
            clear hle
            go_wp2_with fail
            go_roundg (d - 1)
            case measure => omega
            case rel => exact ⟨d - 1, rfl, rfl, rfl, hd3, by omega, hs10⟩
  · obtain rfl : k = 0 := by omega
    obtain ⟨hv, hm⟩ := HR.out.1.done HA.out
    have HM := hi0 hm
    have HV := hi0 hv
    have HLB := hi0 HR.out.1.1
    clear hv hm
    go_wp2_with fail
    refine (d0u p1 xs.length c1 L _ hoL.rd hL.out.symm (by rw [hL.out]; exact hL.out ▸ hoL.le_cap) HLB.out (by rw [hL.out]; omega)).mono ?_
    rintro e w3 ⟨rfl, rfl⟩
    rw [HV.out]
    go_wp2_with fail
    go_ret2
    have ht := b0g a0g L HLB.out
    have ho3 := hoL.take (dig B16 (val B16 L)).length
    rw [ht, HV.out] at ho3
    rw [← HM.out]
    exact ⟨p1, _, pr, _, rfl, ho3.rd, Nat.le_refl _, j0q ho3, hrr, hrc, fun h => Nat.le_trans hsz1 (hrb h), hbL⟩
theorem w0z (p q : Option Addr) (n m c e0 : Nat) (a b : Nat) (w : World) (hp : Rd w .i64 p (dig B16 a)) (hq : Rd w .i64 q (dig B16 b)) (hn : n = (dig B16 a).length) (hm : m = (dig B16 b).length)
 (hl : (dig B16 a).length ≤ 100000000) (hl2 : (dig B16 b).length ≤ 100000000) (hb : 0 < b) :
 Calls Tryz.prog 54 #[.slice p n c, .slice q m e0] w (w0l w .i64 (dig B16 (a / b)) (dig B16 (a % b))) := by
 by_cases h1 : (dig B16 b).length = 1
 · obtain ⟨h2, h3⟩ := o0u a0g h1
   rw [h1] at hm
   rw [n0u a0g h2 h3] at hq
   exact w0m p q n m c e0 a b w hp hq hn hm (by omega) h2 h3
 · have h0 : (dig B16 b).length ≠ 0 := by
    have := a0e a0g b
    omega
   exact u0k p q n m c e0 a b ((dig B16 b).length - 2) w hp hq hn hm hl hl2 (by omega)
instance decDv : DecidableEq Dv := fun a b => decidable_of_iff (a.neg = b.neg ∧ a.m = b.m ∧ a.e = b.e) ⟨fun h => Dv.ext' h.1 h.2.1 h.2.2, fun h => by subst h; exact ⟨rfl, rfl, rfl⟩⟩
theorem o0w (p q : Option Addr) (n c m d : Nat) (xs ys : List Nat) (w : World) (hp : Rd w .u32 p xs) (hq : Rd w .u32 q ys) (hn : n = xs.length) (hm : m = ys.length) (hl : xs.length ≤ 1000000000) (_hl2 : ys.length ≤ 1000000000) :
 Calls Tryz.prog 55 #[.slice p n c, .slice q m d] w fun e w' => e = .returned (.bool (decide (xs = ys))) ∧ Below w.heap.size w w' := by
 by_cases he : xs = ys
 · have h1 : decide (xs = ys) = true := dTr he
   rw [h1]
   exact j0e p q n c m d xs ys w hp hq hn hm he (by omega)
 · subst hn hm
   have h1 : decide (xs = ys) = false := dFa he
   rw [h1]
   have hs1 := hp.solid
   have hs2 := hq.solid
   by_cases hlen : xs.length = ys.length
   · have HN : Hid (∃ j, j < xs.length ∧ dg xs j ≠ dg ys j) := by
      apply Classical.byContradiction
      intro hc
      apply he
      apply c0g hlen
      intro t ht
      apply Classical.byContradiction
      intro hne
      exact hc ⟨t, ht, hne⟩
     have HL := hi0 hlen
     rw [← hlen] at hs2
     rw [← hlen]
     clear he h1 hlen
     go_enter Tryz.func55, Tryz.ntmps55
     go_wp2
     go_loopw [5] (fun iv wr => ∃ (i : Nat), iv = .int .i64 i ∧ i ≤ xs.length ∧ Below w.heap.size w wr ∧ Hid (∀ j, j < i → dg xs j = dg ys j)) (fun iv _ => xs.length - (intOf iv).toNat)
     case atStart => exact ⟨0, rfl, Nat.zero_le _, Below.refl _ _, (show ∀ j, j < 0 → dg xs j = dg ys j from fun j hj => by omega)⟩
     case round =>
      obtain ⟨i, rfl, hi, hb, HE⟩ := hrel
      by_cases hlt : i < xs.length
      · have hc1 := (hp.past hb).cells i hlt
        have hc2 := (hq.past hb).cells i (by rw [← HL.out]; exact hlt)
        have i1 : (i : Int) < (xs.length : Int) := by omega
        have i0 : (0 : Int) ≤ (i : Int) := by omega
        by_cases hd : dg xs i = dg ys i
        · rw [← hd] at hc2
          have HS : Hid (∀ j, j < i + 1 → dg xs j = dg ys j) := fun j hj => by
           by_cases hji : j = i
           · subst hji; exact hd
           · exact HE.out j (by omega)
          clear hd
          go_wp2_with fail
          go_quiet (fail)
          go_wp2
          go_roundw
          case measure => simp [intOf]; omega
          case rel => exact ⟨i + 1, by go_num, hlt, hb.trans (below_drewN (Below.refl _ _) _), HS⟩
        · have h2 : (((dg xs i : Nat) : Int) == ((dg ys i : Nat) : Int)) = false := bFn (by omega)
          have h3 : (((dg xs i : Nat) : Int) != ((dg ys i : Nat) : Int)) = true := by rw [bne, h2]; rfl
          clear hd
          go_wp2_with fail
          go_quiet (fail)
          go_wp2
          go_ret
          exact ⟨rfl, hb.trans (below_drewN (Below.refl _ _) _)⟩
      · exfalso
        obtain ⟨j, hj, hne⟩ := HN.out
        exact hne (HE.out j (by omega))
   · have h2 : ((xs.length : Int) == (ys.length : Int)) = false := bFn (by omega)
     have h3 : ((xs.length : Int) != (ys.length : Int)) = true := by rw [bne, h2]; rfl
     clear he h1 hlen
     go_enter Tryz.func55, Tryz.ntmps55
     go_wp2
     go_ret
     exact ⟨rfl, Below.refl _ _⟩
structure InF (w : World) (base : Nat) (a : Rw) : Prop where
 rd : Rd w .i64 a.p (dig B16 a.m)
 cap : (dig B16 a.m).length ≤ a.c
 len : (dig B16 a.m).length ≤ 1000000
 lo : -1000000 ≤ a.e
 hi : a.e ≤ 1000000
 at_ : 0 < (dig B16 a.m).length → base ≤ blk a.p
theorem InF.past {w w' : World} {base : Nat} {a : Rw} (h : InF w base a) (hb : Below w.heap.size w w') : InF w' base a := ⟨h.rd.past hb, h.cap, h.len, h.lo, h.hi, h.at_⟩
theorem InF.drew {w : World} {base : Nat} {a : Rw} (h : InF w base a) : InF w.drew base a := ⟨h.rd.drew, h.cap, h.len, h.lo, h.hi, h.at_⟩
theorem InF.mono {w : World} {base base' : Nat} {a : Rw} (h : InF w base a) (hb : base' ≤ base) : InF w base' a := ⟨h.rd, h.cap, h.len, h.lo, h.hi, fun k => Nat.le_trans hb (h.at_ k)⟩
theorem InF.only {w w' : World} {base k : Nat} {a : Rw} (h : InF w base a) (hb : Only k w w') (hne : 0 < (dig B16 a.m).length → blk a.p ≠ k) : InF w' base a := ⟨h.rd.only hb hne, h.cap, h.len, h.lo, h.hi, h.at_⟩
theorem InF.lt {w : World} {base : Nat} {a : Rw} (h : InF w base a) : 0 < (dig B16 a.m).length → blk a.p < w.heap.size := fun k => h.rd.lt k
def GRf (w : World) (xs : List Nat) (en : Ending) (w' : World) : Prop :=
 ∃ p c, en = .returned (.slice p xs.length c) ∧ Rf w' w.heap.size p c xs ∧ Below w.heap.size w w'
theorem i0c.grf {w w' : World} {xs : List Nat} {en : Ending} (h : i0c w .i64 xs en w') : GRf w xs en w' := by
 obtain ⟨p, c, h1, h2, h3, h4, h5⟩ := h
 exact ⟨p, c, h1, k1b h2 h3 h4, h5⟩
def GNf (w : World) (base : Nat) (d : Dv) (en : Ending) (w' : World) : Prop :=
 ∃ p c, en = .returned (.agg #[.bool d.neg, .slice p (dig B16 d.m).length c, .int .i64 d.e]) ∧ Rf w' base p c (dig B16 d.m) ∧ Below w.heap.size w w'
theorem q1m (p q : Option Addr) (n m c d : Nat) (a b x : Nat) (w : World) (hp : Rd w .i64 p (dig B16 a)) (hq : Rd w .i64 q (dig B16 b)) (hn : n = (dig B16 a).length) (hm : m = (dig B16 b).length)
 (hl : (dig B16 a).length ≤ 100000000) (hl2 : (dig B16 b).length ≤ 100000000) (h : a * b = x) :
 Calls Tryz.prog 53 #[.slice p n c, .slice q m d] w (GRf w (dig B16 x)) := by
 subst h; exact (i0d p q n m c d a b w hp hq hn hm (by omega)).mono fun _ _ => i0c.grf
theorem q1n {w w' : World} {d : Dv} {en : Ending} (h : t0w w (fun _ => False) d en w') : GNf w w.heap.size d en w' := by
 obtain ⟨p, c, h1, h2, h3, h4, h5⟩ := h
 exact ⟨p, c, h1, q1x h2 h3 h4, h5⟩
theorem q1o (g : Bool) (p : Option Addr) (n c : Nat) (e : Int) (m : Nat) (d : Dv) (w : World) (hp : Rd w .i64 p (dig B16 m)) (hn : n = (dig B16 m).length) (hl : (dig B16 m).length ≤ 1000000) (he : -1000000 ≤ e ∧ e ≤ 1000000) (h : bare ⟨g, m, e⟩ = d) :
 Calls Tryz.prog 51 #[.agg #[.bool g, .slice p n c, .int .i64 e]] w (GNf w w.heap.size d) := by
 subst h
 exact (u0g g p n c e m w hp hn (by omega) (by omega)).mono fun _ _ => q1n
end Go.Proofs.YtbamiajjampgnaaGreatDoor
namespace Go.Slip
end Go.Slip
namespace Go.Proofs.YtbamiajjampgnaaGreatDoor
open Go.RowKit Go.Slip
def x0a (n cls : Int) (a : Din) : Int := if IsFm n then a0r (fmt n) cls a else 6
theorem b1d (n : Int) (cls : Int) (a : Din) (w : World) (ha : InD w a) (hT : TabW w) :
 Calls Tryz.prog 154 #[.int .i64 n, .agg #[.int .i64 cls, .bool a.g, .slice a.p a.xs.length a.c, .int .i64 a.e]] w (u0j w (x0a n cls a) (p0z (fmt n) cls a)) := by
 unfold x0a
 by_cases hn : IsFm n
 · rw [if_pos hn]; exact f1o n cls a w hn ha hT
 · rw [if_neg hn]
   have HF := fun W => hi0 (i0b n hn W)
   generalize p0z (fmt n) cls a = s
   have I := Inv.start w [] True.intro
   refine a0h [.v (.int .i64 n), .v (.agg #[.int .i64 cls, .bool a.g, .slice a.p a.xs.length a.c, .int .i64 a.e])] I Tryz.func154 ?_
   refine zq I (fun Al W I => (HF W).out) fun Al W I => ?_
   exact zret I fun Al W I => b0a (r := 6) rfl (by decide) rfl I.below
def a5 : Din := ⟨false, none, 0, [], 0⟩
end Go.Proofs.YtbamiajjampgnaaGreatDoor
namespace Go.Slip
open Go.RowKit
theorem RdV.grown {w w' : World} {p : Option Addr} {vs : List Value} {row : Option Nat} (h : RdV w p vs) (hg : w.grownBy w' row) (hne : 0 < vs.length → some (blk p) ≠ row) : RdV w' p vs :=
 h.same fun h0 => hg.block _ (h.lt h0) (hne h0)
theorem Rf.grown {w w' : World} {base : Nat} {p : Option Addr} {c : Nat} {xs : List Nat} {row : Option Nat} (h : Rf w base p c xs) (hg : w.grownBy w' row) (hne : 0 < xs.length → some (blk p) ≠ row) : Rf w' base p c xs :=
 ⟨h.rd.same fun h0 => hg.block _ (h.rd.lt h0) (hne h0), h.cap, h.at_⟩
section
variable {P : Program} {ops : Array Oper} {Q : Exit → Act → World → Prop} {a : Act} {w : World} {rest : List Oper} {o : Oper} {K : Act → World → Prop}
end
end Go.Slip
namespace Go.Proofs.YtbamiajjampgnaaGreatDoor
open Go.RowKit Go.Slip
theorem b1e (f : Fm) {k : Nat} (h : k ≠ 2) (g : Bool) (d d' : Dv) : f.encP k g d = f.encP k g d' := by
 unfold Fm.encP
 rw [if_neg h, if_neg h]
theorem x0b {f : Fm} (G : d0k f) {neg : Bool} {e x : Nat} (he : e < 2 ^ f.E) (hx : x < 2 ^ f.F) : a0y f (a0c (f.str neg e x)) = f.pat neg e x := by
 have ho : f.ord = 1 → f.size % 2 = 0 := fun _ => by have := G.sz; omega
 unfold a0y
 rw [a0s (by unfold Fm.str; exact p0q (by rw [e0a]; exact ho) (t0i _ _)), p1l G he hx]
theorem s0l {r : Nat} (h : (dig B32 r).length ≤ 1200) : b0m (dig B32 r) = 0 := by rw [Go.Slip.o0z, if_neg (by omega)]
structure Is (a : Din) (v : Vl) : Prop where
 g : a.g = v.neg
 xs : a.xs = dig B32 v.d
 e : a.e = v.pow
theorem Is.num {a : Din} {v : Vl} (h : Is a v) (f : Fm) : numD f a = bare ⟨v.neg, v.d, wid f.g * v.pow⟩ := by
 unfold numD
 rw [h.g, h.xs, h.e, b0b a0a]
def dinV (v : Vl) (p : Option Addr) (c : Nat) : Din := ⟨v.neg, p, c, dig B32 v.d, v.pow⟩
theorem n1h {v : Vl} {p : Option Addr} {c base : Nat} {w : World} (h : Own w base .u32 143 p c (dig B32 v.d)) (hl : (dig B32 v.d).length ≤ 1000) : InD w (dinV v p c) :=
 ⟨h.rd, h.le_cap, by show (dig B32 v.d).length ≤ _; omega, b0i a0a _⟩
structure ResF (f : Fm) (r : Vr) : Prop where
 c : 1 ≤ r.cls ∧ r.cls ≤ 5
 c1 : r.cls = 1 → r.neg = true → f.fam ≠ 3
 c2 : r.cls = 2 → a0v r.x f.g = true ∧ Bare r.x ∧ r.x.m ≠ 0 ∧ r.x.neg = r.neg
 c3 : r.cls = 3 → f.fam = 1
 c4 : r.cls = 4 → f.fam = 1 ∧ r.neg = false
 c5 : r.cls = 5 → f.fam = 3 ∧ r.neg = false
 x0 : r.cls ≠ 2 → r.x = vz
structure VRep (f : Fm) (v : Vl) (r : Vr) : Prop where
 cls : v.cls = r.cls
 neg : v.neg = r.neg
 num : r.cls = 2 → bare ⟨v.neg, v.d, wid f.g * v.pow⟩ = r.x
 oth : r.cls ≠ 2 → v.d = 0 ∧ v.pow = 0
 len : (dig B32 v.d).length ≤ 1000
 lo : -20000 ≤ v.pow
 hi : v.pow ≤ 20000
theorem q1p {f : Fm} {v : Vl} {r : Vr} (R : ResF f r) (V : VRep f v r) (p : Option Addr) (c : Nat) :
 a0r f (v.cls : Int) (dinV v p c) = 0 ∧ p0z f (v.cls : Int) (dinV v p c) = a0c (f.strP (f.encP r.cls r.neg r.x)) := by
 have hinf : f.inf = false ↔ f.fam ≠ 1 := by unfold Fm.inf; simp
 have hres : f.res = false ↔ f.fam ≠ 3 := by unfold Fm.res; simp
 have hres1 : f.res = true ↔ f.fam = 3 := by unfold Fm.res; simp
 have hc := R.c
 have hcl := V.cls
 have hlo := V.lo
 have hhi := V.hi
 have hE : b0m (dinV v p c).xs = 0 := s0l (by have := V.len; omega)
 have hN : r.cls = 2 → numD f (dinV v p c) = r.x := fun h => by
  rw [← V.num h]
  unfold numD dinV
  simp only [b0b a0a]
 refine ⟨?_, ?_⟩
 · unfold a0r
   rw [if_neg (by omega), if_neg (by omega), if_neg]
   · by_cases h2 : r.cls = 2
     · obtain ⟨i1, i2, i3, i4⟩ := R.c2 h2
       rw [if_pos (by omega), if_neg (by show ¬ (v.pow < _ ∨ _ < v.pow); omega), hN h2, i1, if_neg]
       rintro (h | h)
       · have h0 : v.d = 0 := (a0e a0a _).1 h
         have := V.num h2
         rw [h0] at this
         exact i3 (by rw [← this]; rfl)
       · cases h
     · obtain ⟨o1, o2⟩ := V.oth h2
       rw [if_neg (by omega), if_neg]
       rintro (h | h | ⟨h, k⟩)
       · have : (dig B32 v.d).length = 0 := by rw [o1, a0d]; rfl
         have h : 0 < (dig B32 v.d).length := h
         omega
       · exact h o2
       · have hg : r.neg = true := by rw [← V.neg]; exact h
         have k4 := R.c4
         have k5 := R.c5
         rw [hg] at k4 k5
         rcases k with k | k
         · rcases (show r.cls = 4 ∨ r.cls = 5 by omega) with q | q
           · exact absurd (k4 q).2 (by decide)
           · exact absurd (k5 q).2 (by decide)
         · rcases (show r.cls = 1 ∨ r.cls = 3 ∨ r.cls = 4 ∨ r.cls = 5 by omega) with q | q | q | q
           · exact R.c1 q hg (hres1.1 k)
           · have := R.c3 q; have := hres1.1 k; omega
           · exact absurd (k4 q).2 (by decide)
           · exact absurd (k5 q).2 (by decide)
   · rintro (⟨h | h, k⟩ | ⟨h, k⟩)
     · exact hinf.1 k (R.c3 (by omega))
     · exact hinf.1 k (R.c4 (by omega)).1
     · exact hres.1 k (R.c5 (by omega)).1
 · unfold p0z
   rw [show ((v.cls : Int)).toNat = r.cls by omega, show (dinV v p c).g = r.neg from V.neg]
   by_cases h2 : r.cls = 2
   · rw [hN h2]
   · rw [b1e f h2 r.neg _ r.x]
theorem q1q {neg : Bool} {num den : Nat} {e : Int} {g : Gd} {way : Int} (hd : 0 < den) (G : f0c g) (ho : (a0q neg num den e g way).over = false)
 (hu : (a0q neg num den e g way).under = true → g.grad = false → g.lo ≤ (a0q neg num den e g way).pow ∧ (a0q neg num den e g way).d ≠ 0) :
 a0v (rv neg num den e g way) g = true := by
 by_cases hok : okP (a0q neg num den e g way) g = true
 · exact p1h hd G hok
 · unfold okP at hok
   rw [ho] at hok
   simp only [Bool.not_false, Bool.true_and, Bool.or_eq_true, Bool.not_eq_true', not_or, Bool.not_eq_false, Bool.not_eq_true] at hok
   obtain ⟨h1, h2⟩ := hok
   obtain ⟨h3, h4⟩ := hu h1 h2
   by_cases h0 : num = 0
   · subst h0; rw [w0c]; rfl
   · unfold rv
     unfold a0q at *
     rw [if_neg h0] at *
     generalize theK num den e (wid g) g.digs.toNat = K at *
     have hk : K < g.lo := oTr h1
     have hp : powK g K = K := by unfold powK; rw [if_neg (fun h => by rw [h2] at h; cases h.2)]
     have e1 : (fitK neg num den e g way K).pow = if digP neg num den e (wid g) g.digs.toNat way (powK g K) = 0 then 0 else powP neg num den e (wid g) g.digs.toNat way (powK g K) := rfl
     have e2 : (fitK neg num den e g way K).d = digP neg num den e (wid g) g.digs.toNat way (powK g K) := rfl
     have e3 : (fitK neg num den e g way K).neg = neg := rfl
     rw [e2] at h4
     rw [e1, if_neg h4] at h3
     rw [e1, e2, e3, if_neg h4]
     rw [hp] at h3 h4 ⊢
     have hl : h0q neg num den e (wid g) g.digs.toNat way K := by
      by_cases h : h0q neg num den e (wid g) g.digs.toNat way K
      · exact h
      · unfold powP at h3; rw [if_neg h] at h3; omega
     unfold digP powP at *
     rw [if_pos hl] at h3
     rw [if_pos hl, if_pos hl]
     have hd1 := G.d1
     have hgl := G.le
     have hww : wid g * (g.digs.toNat - 1) < wid g * g.digs.toNat := Nat.mul_lt_mul_of_pos_left (by omega) (b0n g).1
     have habs : (sg neg (2 ^ (wid g * (g.digs.toNat - 1)))).natAbs = 2 ^ (wid g * (g.digs.toNat - 1)) := by unfold sg; cases neg <;> simp [Int.natAbs_pow]
     rw [← j0n]
     refine j0o G (show g.digs = (g.digs.toNat : Int) by omega) ?_ ?_ h3 (by omega)
     · rw [habs]; exact Nat.pow_lt_pow_right (by omega) hww
     · rw [habs]; exact .inr (.inl (Nat.le_refl _))
theorem s0m {g : Bool} {m : Nat} {e : Int} (h : m ≠ 0) : (bare ⟨g, m, e⟩).neg = g ∧ (bare ⟨g, m, e⟩).m ≠ 0 := by
 unfold bare
 rw [if_neg h]
 refine ⟨rfl, fun h2 => ?_⟩
 have := (b0w m (by omega)).2
 simp only at h2
 rw [h2] at this
 simp at this
/-! ### What comes -/
theorem x0c {f : Fm} (G : d0k f) (g : Bool) : ResF f (f.zeroM g) := by
 have := G.fam
 refine ⟨by show 1 ≤ 1 ∧ 1 ≤ 5; omega, fun _ h h3 => ?_, fun h => (by cases h), fun h => (by cases h), fun h => (by cases h), fun h => (by cases h), fun _ => rfl⟩
 have h : (g && decide (f.fam = 1)) = true := h
 simp [h3] at h
theorem b1f {f : Fm} (G : d0k f) : ResF f f.nothM := by
 have hf := G.fam
 unfold Fm.nothM
 rcases hf with h | h | h <;> rw [h] <;> refine ⟨?_, ?_, ?_, ?_, ?_, ?_, fun _ => rfl⟩ <;> simp [h]
theorem q1r {f : Fm} (h : f.fam = 1) (g : Bool) : ResF f (infM g) :=
 ⟨by show 1 ≤ 3 ∧ 3 ≤ 5; omega, fun h => (by cases h), fun h => (by cases h), fun _ => h, fun h => (by cases h), fun h => (by cases h), fun _ => rfl⟩
theorem j1h {f : Fm} (G : d0k f) (g : Bool) : 2 ^ (wid f.g * f.g.digs.toNat) - 1 ≠ 0 ∧ a0v (f.greatM g).x f.g = true := by
 have GG := c0a G.g
 have hd1 := GG.d1
 have hgl := GG.le
 have wp := b0n f.g
 have hww : wid f.g * (f.g.digs.toNat - 1) < wid f.g * f.g.digs.toNat := Nat.mul_lt_mul_of_pos_left (by omega) wp.1
 have h1 : 2 ^ (wid f.g * (f.g.digs.toNat - 1)) < 2 ^ (wid f.g * f.g.digs.toNat) := Nat.pow_lt_pow_right (by omega) hww
 have h2 : 0 < 2 ^ (wid f.g * (f.g.digs.toNat - 1)) := Nat.pow_pos (by omega)
 refine ⟨by omega, ?_⟩
 show a0v (bare ⟨g, 2 ^ (wid f.g * f.g.digs.toNat) - 1, wid f.g * f.g.hi⟩) f.g = true
 have habs : (sg g (2 ^ (wid f.g * f.g.digs.toNat) - 1)).natAbs = 2 ^ (wid f.g * f.g.digs.toNat) - 1 := by unfold sg; cases g <;> simp only [if_true, Bool.false_eq_true, if_false, Int.natAbs_neg, Int.natAbs_natCast]
 rw [← j0n]
 refine j0o GG (show f.g.digs = (f.g.digs.toNat : Int) by omega) ?_ ?_ hgl (Int.le_refl _)
 · rw [habs]; omega
 · rw [habs]; exact .inr (.inl (by omega))
theorem z0f {f : Fm} (G : d0k f) (g : Bool) : ResF f (f.greatM g) := by
 obtain ⟨h1, h2⟩ := j1h G g
 exact ⟨by show 1 ≤ 2 ∧ 2 ≤ 5; omega, fun h => (by cases h), fun _ => ⟨h2, j0z _, (s0m h1).2, (s0m h1).1⟩, fun h => (by cases h), fun h => (by cases h), fun h => (by cases h), fun h => absurd rfl h⟩
theorem u0l {f : Fm} (G : d0k f) (g : Bool) : VRep f ⟨2, g, 2 ^ (wid f.g * f.g.digs.toNat) - 1, f.g.hi⟩ (f.greatM g) := by
 have GG := c0a G.g
 have h1 := GG.h1
 have h2 := GG.h2
 have hd2 := GG.d2
 have wp := b0n f.g
 have hm : wid f.g * f.g.digs.toNat ≤ 4 * 120 := Nat.mul_le_mul wp.2 (by omega)
 refine ⟨rfl, rfl, fun _ => rfl, fun h => absurd rfl h, ?_, by show _ ≤ f.g.hi; omega, by show f.g.hi ≤ _; omega⟩
 exact Nat.le_trans (a0m a0a (Nat.sub_le _ _)) (Nat.le_trans (h0h hm) (by omega))
theorem g0x {f : Fm} {k : Nat} {g : Bool} {x : Dv} (h : k ≠ 2) : VRep f ⟨k, g, 0, 0⟩ ⟨k, g, x⟩ :=
 ⟨rfl, rfl, fun e => absurd e h, fun _ => ⟨rfl, rfl⟩, by show (dig B32 0).length ≤ _; rw [a0d]; decide, by show (-20000 : Int) ≤ 0; decide, by show (0 : Int) ≤ 20000; decide⟩
def _root_.Go.Slip.Fm.placedV (f : Fm) (p : Pl) (way : Int) : Vl :=
 if p.over then (if f.fam = 2 then ⟨2, p.neg, 2 ^ (wid f.g * f.g.digs.toNat) - 1, f.g.hi⟩ else if f.fam = 3 then ⟨f.nothM.cls, false, 0, 0⟩ else if way ≤ 2 ∨ (way = 4 ∧ p.neg = false) ∨ (way = 5 ∧ p.neg = true) then ⟨3, p.neg, 0, 0⟩ else ⟨2, p.neg, 2 ^ (wid f.g * f.g.digs.toNat) - 1, f.g.hi⟩)
 else if p.under = true ∧ f.fam ≠ 1 ∧ p.pow < f.g.lo then ⟨1, false, 0, 0⟩
 else if p.d = 0 then ⟨1, p.neg && decide (f.fam = 1), 0, 0⟩
 else ⟨2, p.neg, p.d, p.pow⟩
theorem f1r {f : Fm} (_G : d0k f) : f.nothM.cls ≠ 2 := by unfold Fm.nothM; simp only; split <;> (try split) <;> omega
theorem l0q {f : Fm} (G : d0k f) {neg : Bool} {num den : Nat} {e way : Int} (hd : 0 < den) :
 ResF f (f.placedM (a0q neg num den e f.g way) way).1 ∧ VRep f (f.placedV (a0q neg num den e f.g way) way) (f.placedM (a0q neg num den e f.g way) way).1 := by
 have GG := c0a G.g
 have hin := fun h1 h2 => q1q (neg := neg) (num := num) (e := e) (way := way) hd GG h1 h2
 have hlen := f1i (neg := neg) (num := num) (e := e) (way := way) hd GG
 have hpw := fun h => q1i (neg := neg) (num := num) (e := e) (way := way) hd GG h
 have hpw2 : (a0q neg num den e f.g way).over = false → (a0q neg num den e f.g way).pow ≤ 17000 := by
  intro h
  have hh := GG.h2
  unfold a0q at *
  by_cases h0 : num = 0
  · rw [if_pos h0]; simp
  · rw [if_neg h0] at *
    generalize theK num den e (wid f.g) f.g.digs.toNat = K at *
    have h1 : powP neg num den e (wid f.g) f.g.digs.toNat way (powK f.g K) ≤ f.g.hi := by
     have h : decide (f.g.hi < powP neg num den e (wid f.g) f.g.digs.toNat way (powK f.g K)) = false := h
     have := oFa h
     omega
    show (if digP neg num den e (wid f.g) f.g.digs.toNat way (powK f.g K) = 0 then 0 else powP neg num den e (wid f.g) f.g.digs.toNat way (powK f.g K)) ≤ 17000
    split <;> omega
 unfold rv at hin
 have hgr := G.grad
 have l1 := GG.l1
 generalize a0q neg num den e f.g way = p at *
 unfold Fm.placedM Fm.placedV
 cases ho : p.over with
 | true =>
  simp only [if_true]
  by_cases h2 : f.fam = 2
  · rw [if_pos h2, if_pos h2]; exact ⟨z0f G _, u0l G _⟩
  · rw [if_neg h2, if_neg h2]
    by_cases h3 : f.fam = 3
    · rw [if_pos h3, if_pos h3]; exact ⟨b1f G, g0x (f1r G)⟩
    · have hf : f.fam = 1 := by have := G.fam; omega
      rw [if_neg h3, if_neg h3]
      split
      · exact ⟨q1r hf _, g0x (by decide)⟩
      · exact ⟨z0f G _, u0l G _⟩
 | false =>
  simp only [Bool.false_eq_true, if_false]
  by_cases hz : p.under = true ∧ f.fam ≠ 1 ∧ p.pow < f.g.lo
  · rw [if_pos hz, if_pos hz]
    exact ⟨x0c G _, g0x (by decide)⟩
  · rw [if_neg hz, if_neg hz]
    by_cases hd0 : p.d = 0
    · rw [if_pos hd0, if_pos hd0]
      exact ⟨x0c G _, g0x (by decide)⟩
    · rw [if_neg hd0, if_neg hd0]
      have hu : p.under = true → f.g.grad = false → f.g.lo ≤ p.pow ∧ p.d ≠ 0 := fun h1 h2 => by
       rw [hgr] at h2
       have := oFa h2
       refine ⟨?_, hd0⟩
       rcases Int.lt_or_le p.pow f.g.lo with h | h
       · exact absurd ⟨h1, this, h⟩ hz
       · exact h
      obtain ⟨b1, b2⟩ := s0m (g := p.neg) (e := wid f.g * p.pow) hd0
      have hlo : -17000 ≤ p.pow := by
       by_cases hok : okP p f.g = true
       · exact (hpw hok).1
       · unfold okP at hok
         rw [ho] at hok
         simp only [Bool.not_false, Bool.true_and, Bool.or_eq_true, Bool.not_eq_true', not_or, Bool.not_eq_false, Bool.not_eq_true] at hok
         have := (hu hok.1 hok.2).1
         omega
      have hhi := hpw2 ho
      refine ⟨⟨by show 1 ≤ 2 ∧ 2 ≤ 5; omega, fun h => (by cases h), fun _ => ⟨hin ho hu, j0z _, b2, b1⟩, fun h => (by cases h), fun h => (by cases h), fun h => (by cases h), fun h => absurd rfl h⟩, ?_⟩
      exact ⟨rfl, rfl, fun _ => rfl, fun h => absurd rfl h, by show (dig B32 p.d).length ≤ _; omega, by show _ ≤ p.pow; omega, by show p.pow ≤ _; omega⟩
theorem j1i (f : Fm) (n way a c : Int) (g : Bool) (u : Nat) (w : World) (U : Bt w u 223 #[.int .i64 n, .int .i64 way, .int .i64 f.g.rad, .int .i64 f.g.digs, .int .i64 f.g.lo, .int .i64 f.g.hi, .bool f.g.grad, .int .u8 (famB f), .int .i64 a]) (hd : 0 ≤ f.g.digs ∧ f.g.digs ≤ 1000) (hc : bits .or .i64 a 5 = c) (h1 : f.fam = 1) (hw : 1 ≤ way ∧ way ≤ 5) :
 Calls Tryz.prog 196 #[.pointer (some ⟨u, 0, none⟩), .bool g] w (l0x f n way c u w (if way ≤ 2 ∨ (way = 4 ∧ g = false) ∨ (way = 5 ∧ g = true) then ⟨3, g, 0, 0⟩ else ⟨2, g, 2 ^ (wid f.g * f.g.digs.toNat) - 1, f.g.hi⟩)) := by
 have hF : famB f = 65 := by unfold famB; rw [if_pos h1]
 rcases (show way = 1 ∨ way = 2 ∨ way = 3 ∨ way = 4 ∨ way = 5 by omega) with rfl | rfl | rfl | rfl | rfl <;> cases g
 · rw [if_pos (by decide)]
   have HR := fun W u hU => hi0 (d0o f n 1 a 5 c u W hU hc)
   have I := Inv.startW w u 223 (uS f n 1 a) [] U True.intro True.intro
   refine a0h [.p 0 0, .v (.bool false)] I Tryz.func196 ?_
   refine zge I 0 223 (fun Al W I => (HR W _ (I.box 0 223 _)).out) fun Al V Iv _ _ kz => ?_
   rintro _ W ⟨rfl, hO, hB⟩
   refine ⟨_, rfl, kz _ (uS f n 1 c) _ hO hB fun I => ?_⟩
   refine zb I 13 ((famB f) == 66) (false) (bFn (by rw [hF]; decide)) fun Al W I => ?_
   refine zb I 18 ((famB f) == 67) (false) (bFn (by rw [hF]; decide)) fun Al W I => ?_
   refine zq I (fun Al W I => l0p false W) fun Al W I => ?_
   exact zret I fun Al W I => d0w (k := 3) rfl I.bel (I.boxE 223 _)
 · rw [if_pos (by decide)]
   have HR := fun W u hU => hi0 (d0o f n 1 a 5 c u W hU hc)
   have I := Inv.startW w u 223 (uS f n 1 a) [] U True.intro True.intro
   refine a0h [.p 0 0, .v (.bool true)] I Tryz.func196 ?_
   refine zge I 0 223 (fun Al W I => (HR W _ (I.box 0 223 _)).out) fun Al V Iv _ _ kz => ?_
   rintro _ W ⟨rfl, hO, hB⟩
   refine ⟨_, rfl, kz _ (uS f n 1 c) _ hO hB fun I => ?_⟩
   refine zb I 13 ((famB f) == 66) (false) (bFn (by rw [hF]; decide)) fun Al W I => ?_
   refine zb I 18 ((famB f) == 67) (false) (bFn (by rw [hF]; decide)) fun Al W I => ?_
   refine zq I (fun Al W I => l0p true W) fun Al W I => ?_
   exact zret I fun Al W I => d0w (k := 3) rfl I.bel (I.boxE 223 _)
 · rw [if_pos (by decide)]
   have HR := fun W u hU => hi0 (d0o f n 2 a 5 c u W hU hc)
   have I := Inv.startW w u 223 (uS f n 2 a) [] U True.intro True.intro
   refine a0h [.p 0 0, .v (.bool false)] I Tryz.func196 ?_
   refine zge I 0 223 (fun Al W I => (HR W _ (I.box 0 223 _)).out) fun Al V Iv _ _ kz => ?_
   rintro _ W ⟨rfl, hO, hB⟩
   refine ⟨_, rfl, kz _ (uS f n 2 c) _ hO hB fun I => ?_⟩
   refine zb I 13 ((famB f) == 66) (false) (bFn (by rw [hF]; decide)) fun Al W I => ?_
   refine zb I 18 ((famB f) == 67) (false) (bFn (by rw [hF]; decide)) fun Al W I => ?_
   refine zq I (fun Al W I => l0p false W) fun Al W I => ?_
   exact zret I fun Al W I => d0w (k := 3) rfl I.bel (I.boxE 223 _)
 · rw [if_pos (by decide)]
   have HR := fun W u hU => hi0 (d0o f n 2 a 5 c u W hU hc)
   have I := Inv.startW w u 223 (uS f n 2 a) [] U True.intro True.intro
   refine a0h [.p 0 0, .v (.bool true)] I Tryz.func196 ?_
   refine zge I 0 223 (fun Al W I => (HR W _ (I.box 0 223 _)).out) fun Al V Iv _ _ kz => ?_
   rintro _ W ⟨rfl, hO, hB⟩
   refine ⟨_, rfl, kz _ (uS f n 2 c) _ hO hB fun I => ?_⟩
   refine zb I 13 ((famB f) == 66) (false) (bFn (by rw [hF]; decide)) fun Al W I => ?_
   refine zb I 18 ((famB f) == 67) (false) (bFn (by rw [hF]; decide)) fun Al W I => ?_
   refine zq I (fun Al W I => l0p true W) fun Al W I => ?_
   exact zret I fun Al W I => d0w (k := 3) rfl I.bel (I.boxE 223 _)
 · rw [if_neg (by decide)]
   have HR := fun W u hU => hi0 (d0o f n 3 a 5 c u W hU hc)
   have HG := fun W u hU => hi0 (g0w f n 3 c false u W hU hd)
   generalize 2 ^ (wid f.g * f.g.digs.toNat) - 1 = m at *
   have I := Inv.startW w u 223 (uS f n 3 a) [] U True.intro True.intro
   refine a0h [.p 0 0, .v (.bool false)] I Tryz.func196 ?_
   refine zge I 0 223 (fun Al W I => (HR W _ (I.box 0 223 _)).out) fun Al V Iv _ _ kz => ?_
   rintro _ W ⟨rfl, hO, hB⟩
   refine ⟨_, rfl, kz _ (uS f n 3 c) _ hO hB fun I => ?_⟩
   refine zb I 13 ((famB f) == 66) (false) (bFn (by rw [hF]; decide)) fun Al W I => ?_
   refine zb I 18 ((famB f) == 67) (false) (bFn (by rw [hF]; decide)) fun Al W I => ?_
   refine zqo I (fun Al W I => (HG W _ (I.box 0 223 _)).out) fun Al W p59 c59 I => ?_
   exact zret I fun Al W I => ⟨p59, c59, rfl, I.fa.1.mono (by omega), I.bel, I.boxE 223 _⟩
 · rw [if_neg (by decide)]
   have HR := fun W u hU => hi0 (d0o f n 3 a 5 c u W hU hc)
   have HG := fun W u hU => hi0 (g0w f n 3 c true u W hU hd)
   generalize 2 ^ (wid f.g * f.g.digs.toNat) - 1 = m at *
   have I := Inv.startW w u 223 (uS f n 3 a) [] U True.intro True.intro
   refine a0h [.p 0 0, .v (.bool true)] I Tryz.func196 ?_
   refine zge I 0 223 (fun Al W I => (HR W _ (I.box 0 223 _)).out) fun Al V Iv _ _ kz => ?_
   rintro _ W ⟨rfl, hO, hB⟩
   refine ⟨_, rfl, kz _ (uS f n 3 c) _ hO hB fun I => ?_⟩
   refine zb I 13 ((famB f) == 66) (false) (bFn (by rw [hF]; decide)) fun Al W I => ?_
   refine zb I 18 ((famB f) == 67) (false) (bFn (by rw [hF]; decide)) fun Al W I => ?_
   refine zqo I (fun Al W I => (HG W _ (I.box 0 223 _)).out) fun Al W p59 c59 I => ?_
   exact zret I fun Al W I => ⟨p59, c59, rfl, I.fa.1.mono (by omega), I.bel, I.boxE 223 _⟩
 · rw [if_pos (by decide)]
   have HR := fun W u hU => hi0 (d0o f n 4 a 5 c u W hU hc)
   have I := Inv.startW w u 223 (uS f n 4 a) [] U True.intro True.intro
   refine a0h [.p 0 0, .v (.bool false)] I Tryz.func196 ?_
   refine zge I 0 223 (fun Al W I => (HR W _ (I.box 0 223 _)).out) fun Al V Iv _ _ kz => ?_
   rintro _ W ⟨rfl, hO, hB⟩
   refine ⟨_, rfl, kz _ (uS f n 4 c) _ hO hB fun I => ?_⟩
   refine zb I 13 ((famB f) == 66) (false) (bFn (by rw [hF]; decide)) fun Al W I => ?_
   refine zb I 18 ((famB f) == 67) (false) (bFn (by rw [hF]; decide)) fun Al W I => ?_
   refine zq I (fun Al W I => l0p false W) fun Al W I => ?_
   exact zret I fun Al W I => d0w (k := 3) rfl I.bel (I.boxE 223 _)
 · rw [if_neg (by decide)]
   have HR := fun W u hU => hi0 (d0o f n 4 a 5 c u W hU hc)
   have HG := fun W u hU => hi0 (g0w f n 4 c true u W hU hd)
   generalize 2 ^ (wid f.g * f.g.digs.toNat) - 1 = m at *
   have I := Inv.startW w u 223 (uS f n 4 a) [] U True.intro True.intro
   refine a0h [.p 0 0, .v (.bool true)] I Tryz.func196 ?_
   refine zge I 0 223 (fun Al W I => (HR W _ (I.box 0 223 _)).out) fun Al V Iv _ _ kz => ?_
   rintro _ W ⟨rfl, hO, hB⟩
   refine ⟨_, rfl, kz _ (uS f n 4 c) _ hO hB fun I => ?_⟩
   refine zb I 13 ((famB f) == 66) (false) (bFn (by rw [hF]; decide)) fun Al W I => ?_
   refine zb I 18 ((famB f) == 67) (false) (bFn (by rw [hF]; decide)) fun Al W I => ?_
   refine zqo I (fun Al W I => (HG W _ (I.box 0 223 _)).out) fun Al W p59 c59 I => ?_
   exact zret I fun Al W I => ⟨p59, c59, rfl, I.fa.1.mono (by omega), I.bel, I.boxE 223 _⟩
 · rw [if_neg (by decide)]
   have HR := fun W u hU => hi0 (d0o f n 5 a 5 c u W hU hc)
   have HG := fun W u hU => hi0 (g0w f n 5 c false u W hU hd)
   generalize 2 ^ (wid f.g * f.g.digs.toNat) - 1 = m at *
   have I := Inv.startW w u 223 (uS f n 5 a) [] U True.intro True.intro
   refine a0h [.p 0 0, .v (.bool false)] I Tryz.func196 ?_
   refine zge I 0 223 (fun Al W I => (HR W _ (I.box 0 223 _)).out) fun Al V Iv _ _ kz => ?_
   rintro _ W ⟨rfl, hO, hB⟩
   refine ⟨_, rfl, kz _ (uS f n 5 c) _ hO hB fun I => ?_⟩
   refine zb I 13 ((famB f) == 66) (false) (bFn (by rw [hF]; decide)) fun Al W I => ?_
   refine zb I 18 ((famB f) == 67) (false) (bFn (by rw [hF]; decide)) fun Al W I => ?_
   refine zqo I (fun Al W I => (HG W _ (I.box 0 223 _)).out) fun Al W p59 c59 I => ?_
   exact zret I fun Al W I => ⟨p59, c59, rfl, I.fa.1.mono (by omega), I.bel, I.boxE 223 _⟩
 · rw [if_pos (by decide)]
   have HR := fun W u hU => hi0 (d0o f n 5 a 5 c u W hU hc)
   have I := Inv.startW w u 223 (uS f n 5 a) [] U True.intro True.intro
   refine a0h [.p 0 0, .v (.bool true)] I Tryz.func196 ?_
   refine zge I 0 223 (fun Al W I => (HR W _ (I.box 0 223 _)).out) fun Al V Iv _ _ kz => ?_
   rintro _ W ⟨rfl, hO, hB⟩
   refine ⟨_, rfl, kz _ (uS f n 5 c) _ hO hB fun I => ?_⟩
   refine zb I 13 ((famB f) == 66) (false) (bFn (by rw [hF]; decide)) fun Al W I => ?_
   refine zb I 18 ((famB f) == 67) (false) (bFn (by rw [hF]; decide)) fun Al W I => ?_
   refine zq I (fun Al W I => l0p true W) fun Al W I => ?_
   exact zret I fun Al W I => d0w (k := 3) rfl I.bel (I.boxE 223 _)
theorem k1x (f : Fm) (n way a c : Int) (p : Pl) (u : Nat) (w : World) (U : Bt w u 223 #[.int .i64 n, .int .i64 way, .int .i64 f.g.rad, .int .i64 f.g.digs, .int .i64 f.g.lo, .int .i64 f.g.hi, .bool f.g.grad, .int .u8 (famB f), .int .i64 a]) (G : d0k f) (hc : bits .or .i64 a 5 = c) (hw : 1 ≤ way ∧ way ≤ 5) (ho : p.over = true) :
 Calls Tryz.prog 196 #[.pointer (some ⟨u, 0, none⟩), .bool p.neg] w (l0x f n way c u w (f.placedV p way)) := by
 have GG := c0a G.g
 have h1 := GG.d1
 have h2 := GG.d2
 have hf := G.fam
 unfold Fm.placedV
 rw [if_pos ho]
 by_cases f2 : f.fam = 2
 · rw [if_pos f2]; exact j1c f n way a c p.neg u w U (by omega) hc f2
 · rw [if_neg f2]
   by_cases f3 : f.fam = 3
   · rw [if_pos f3]; exact j1d f n way a c p.neg u w U hc (by omega) f2
   · rw [if_neg f3]; exact j1i f n way a c p.neg u w U (by omega) hc (by omega) hw
def j0t (f : Fm) (n way c : Int) (u : Nat) (w : World) (base : Nat) (v : Vl) (en : Ending) (w' : World) : Prop :=
 ∃ p k, en = .returned (.agg #[.int .i64 (v.cls : Int), .bool v.neg, .slice p (dig B32 v.d).length k, .int .i64 v.pow]) ∧ Own w' base .u32 143 p k (dig B32 v.d) ∧ Kp [u] w w' ∧ Bt w' u 223 #[.int .i64 n, .int .i64 way, .int .i64 f.g.rad, .int .i64 f.g.digs, .int .i64 f.g.lo, .int .i64 f.g.hi, .bool f.g.grad, .int .u8 (famB f), .int .i64 c]
theorem l0x.ub {f : Fm} {n way c : Int} {u base : Nat} {w w' : World} {v : Vl} {en : Ending} (h : l0x f n way c u w v en w') (hb : base ≤ w.heap.size) : j0t f n way c u w base v en w' := by
 obtain ⟨p, k, h1, h2, h3, h4⟩ := h
 exact ⟨p, k, h1, h2.mono hb, h3, h4⟩
theorem i0f {f : Fm} {n way c : Int} {u k base : Nat} {g : Bool} {w w' : World} {en : Ending} (h : en = .returned (.agg #[.int .i64 (k : Int), .bool g, .slice none 0 0, .int .i64 0])) (hk : Kp [u] w w') (hb : Bt w' u 223 #[.int .i64 n, .int .i64 way, .int .i64 f.g.rad, .int .i64 f.g.digs, .int .i64 f.g.lo, .int .i64 f.g.hi, .bool f.g.grad, .int .u8 (famB f), .int .i64 c]) : j0t f n way c u w base ⟨k, g, 0, 0⟩ en w' := by
 refine ⟨none, 0, ?_, ?_, hk, hb⟩
 · rw [h, a0d]; rfl
 · show Own _ _ _ _ _ _ (dig B32 0); rw [a0d]; exact Own.nil _ _ _ _
theorem pl_n (f : Fm) (n way : Int) (ng : Bool) (d : Nat) (pw : Int) (pp : Option Addr) (cc base u : Nat) (w : World) (U : Bt w u 223 #[.int .i64 n, .int .i64 way, .int .i64 f.g.rad, .int .i64 f.g.digs, .int .i64 f.g.lo, .int .i64 f.g.hi, .bool f.g.grad, .int .u8 (famB f), .int .i64 0]) (hp : Own w base .u32 143 pp cc (dig B32 d)) (ex un : Bool) :
 Calls Tryz.prog 176 #[.pointer (some ⟨u, 0, none⟩), .agg #[.bool ng, .slice pp (dig B32 d).length cc, .int .i64 pw, .bool ex, .bool false, .bool un]] w (j0t f n way (((f.placedM ⟨ng, d, pw, ex, false, un⟩ way).2 : Nat) : Int) u w base (f.placedV ⟨ng, d, pw, ex, false, un⟩ way)) := by
 have hV : f.placedV ⟨ng, d, pw, ex, false, un⟩ way = if un = true ∧ f.fam ≠ 1 ∧ pw < f.g.lo then ⟨1, false, 0, 0⟩ else if d = 0 then ⟨1, ng && decide (f.fam = 1), 0, 0⟩ else ⟨2, ng, d, pw⟩ := by unfold Fm.placedV; simp only [Bool.false_eq_true, if_false]
 have hM : (f.placedM ⟨ng, d, pw, ex, false, un⟩ way).2 = if un = true ∧ f.fam ≠ 1 ∧ pw < f.g.lo then 3 else f.flP ⟨ng, d, pw, ex, false, un⟩ := by
  unfold Fm.placedM; simp only [Bool.false_eq_true, if_false]
  split
  · rfl
  · split <;> rfl
 have hFL : f.flP ⟨ng, d, pw, ex, false, un⟩ = if un then (if f.fam = 1 then (if ex then 0 else 3) else 3) else if ex then 0 else 1 := rfl
 have hF1 : f.fam = 1 → (famB f != 65) = false := fun h => by unfold famB; rw [if_pos h]; rfl
 have hF2 : f.fam ≠ 1 → (famB f != 65) = true := fun h => by unfold famB; rw [if_neg h]; split <;> rfl
 have hB1 : (famB f != 65) = true → f.fam ≠ 1 := fun h k => by rw [hF1 k] at h; cases h
 have hB2 : (famB f != 65) = false → f.fam = 1 := fun h => Classical.byContradiction fun k => by rw [hF2 k] at h; cases h
 have hz := a0e a0a d
 have HR9 := fun W u hU => hi0 (d0o f n way 0 1 1 u W hU (by decide +kernel))
 have HR3 := fun k (hk : k = 0 ∨ k = 1) W u hU => hi0 (d0o f n way k 3 3 u W hU (by rcases hk with rfl | rfl <;> decide +kernel))
 have HR2 := fun k (hk : k = 1) W u hU => hi0 (d0o f n way k 2 3 u W hU (by subst hk; decide +kernel))
 have HZ := fun k W u hU => hi0 (k1w f n way k ng u W hU)
 rw [hFL] at hM
 generalize (f.placedM ⟨ng, d, pw, ex, false, un⟩ way).2 = FL at *
 generalize f.placedV ⟨ng, d, pw, ex, false, un⟩ way = v at *
 clear hFL
 generalize (ng && decide (f.fam = 1)) = q at *
 have I := Inv.startW w u 223 (uS f n way 0) [ownF base .u32 143 pp cc (dig B32 d)] U ⟨hp, True.intro⟩ ⟨fun hf => hp.far U (by kernel_rfl) hf.1 hf.2, True.intro⟩
 refine a0h [.p 0 0, .v (.agg #[.bool ng, .slice pp (dig B32 d).length cc, .int .i64 pw, .bool ex, .bool false, .bool un])] I Tryz.func176 ?_
 obtain ⟨ne, hne⟩ : ∃ ne, (!ex) = ne := ⟨_, rfl⟩
 refine zb I 7 (!ex) (ne) (hne) fun Al W I => ?_
 refine zcut I (some 2000007) (fun fr bx gs => ∃ (U1 : Nat → Value) (k1 : Int), fr = (.p 0 0 :: .v (.agg #[.bool ng, .slice pp (dig B32 d).length cc, .int .i64 pw, .bool ex, .bool false, .bool un]) :: .v undef :: .p 1 0 :: .p 2 0 :: sw U1 5 2 (.v (.bool ne) :: sw U1 8 2 (.v undef :: sw U1 11 6 (.v undef :: sw U1 18 18 (.v undef :: .v (U1 37) :: .v undef :: sw U1 39 12 (.v undef :: sw U1 52 11 []))))) : List SV) ∧ bx = [⟨223, (uS f n way k1), false⟩, ⟨116, [.v (.bool ng), .v (.slice pp (dig B32 d).length cc), .v (.int .i64 pw), .v (.bool ex), .v (.bool false), .v (.bool un)], false⟩, ⟨66, [.v (.int .i64 0), .v (.bool false), .v (.slice none 0 0), .v (.int .i64 0)], false⟩] ∧ gs = [ownF base .u32 143 pp cc (dig B32 d)] ∧ (k1 = if ex then 0 else 1)) ?_ ?_
 · intro J hJ Al W I
   rcases Bool.eq_false_or_eq_true ne with rfl | rfl
   · refine zge I 0 223 (fun Al W I => (HR9 W _ (I.box 0 223 _)).out) fun Al V Iv _ _ kz => ?_
     rintro _ W ⟨rfl, hO, hB⟩
     refine ⟨_, rfl, kz _ (uS f n way 1) _ hO hB fun I => ?_⟩
     exact a0n I J fun Al W U I => hJ _ _ _ _ _ ⟨U, 1, rfl, rfl, rfl, (by revert hne; cases ex <;> simp)⟩ (I.pick [0])
   exact a0n I J fun Al W U I => hJ _ _ _ _ _ ⟨U, 0, rfl, rfl, rfl, (by revert hne; cases ex <;> simp)⟩ (I.pick [0])
 rintro _ _ _ ⟨U1, k1, rfl, rfl, rfl, hk1⟩ Al W I
 refine zcut I (some 1000000) (fun fr bx gs => ∃ (U2 : Nat → Value) (k2 : Int), fr = (.p 0 0 :: .v (.agg #[.bool ng, .slice pp (dig B32 d).length cc, .int .i64 pw, .bool ex, .bool false, .bool un]) :: .v undef :: .p 1 0 :: .p 2 0 :: sw U2 5 2 (.v (.bool ne) :: sw U2 8 43 (.v undef :: sw U2 52 11 [])) : List SV) ∧ bx = [⟨223, (uS f n way k2), false⟩, ⟨116, [.v (.bool ng), .v (.slice pp (dig B32 d).length cc), .v (.int .i64 pw), .v (.bool ex), .v (.bool false), .v (.bool un)], false⟩, ⟨66, [.v (.int .i64 0), .v (.bool false), .v (.slice none 0 0), .v (.int .i64 0)], false⟩] ∧ gs = [ownF base .u32 143 pp cc (dig B32 d)] ∧ ((FL : Int) = k2) ∧ (¬ (un = true ∧ f.fam ≠ 1 ∧ pw < f.g.lo))) ?_ ?_
 · intro J hJ Al W I
   rcases Bool.eq_false_or_eq_true (un) with f19 | f19
   · refine zb I 19 (un) (true) (f19) fun Al W I => ?_
     rcases Bool.eq_false_or_eq_true ((famB f) != 65) with f25 | f25
     · refine zb I 25 ((famB f) != 65) (true) (f25) fun Al W I => ?_
       refine zge I 0 223 (fun Al W I => (HR3 k1 (by rw [hk1]; split <;> simp) W _ (I.box 0 223 _)).out) fun Al V Iv _ _ kz => ?_
       rintro _ W ⟨rfl, hO, hB⟩
       refine ⟨_, rfl, kz _ (uS f n way 3) _ hO hB fun I => ?_⟩
       by_cases f36 : pw < f.g.lo
       · refine zd [] I fun Al W I => ?_
         refine zk [0, 1, 2, 3, 4, 5, 6] I fun I => ?_
         refine zkb 7 I (decide (pw < f.g.lo)) (true) (dTr f36) fun I => ?_
         refine zret I (v := fun Al => .agg #[.int .i64 1, .bool false, .slice none 0 0, .int .i64 0]) fun Al W I => ?_
         first | (rw [hV, hM, if_pos ⟨f19, hB1 f25, f36⟩, if_pos ⟨f19, hB1 f25, f36⟩]; exact i0f (k := 1) rfl I.bel (I.boxE 223 _)) | (rw [hV, hk2, if_neg hlo, if_neg (fun h => by have := hz.2 h; have := bnF f51; omega)]; exact ⟨pp, cc, rfl, I.fa.1, I.bel, I.boxE 223 _⟩)
       refine zd [] I fun Al W I => ?_
       refine zk [0, 1, 2, 3, 4, 5, 6] I fun I => ?_
       refine zkb 7 I (decide (pw < f.g.lo)) (false) (dFa f36) fun I => ?_
       exact a0n I J fun Al W U I => hJ _ _ _ _ _ ⟨U, 3, rfl, rfl, rfl, (by have h1 := hB1 f25; rw [hM, if_neg (fun h => f36 h.2.2), if_pos f19, if_neg h1]; rfl), (fun h => f36 h.2.2)⟩ (I.pick [0])
     refine zb I 25 ((famB f) != 65) (false) (f25) fun Al W I => ?_
     refine zb I 40 (un) (true) (f19) fun Al W I => ?_
     rcases Bool.eq_false_or_eq_true (!ex) with f44 | f44
     · refine zb I 44 (!ex) (true) (f44) fun Al W I => ?_
       refine zge I 0 223 (fun Al W I => (HR2 k1 (by rw [hk1]; revert f44; cases ex <;> simp) W _ (I.box 0 223 _)).out) fun Al V Iv _ _ kz => ?_
       rintro _ W ⟨rfl, hO, hB⟩
       refine ⟨_, rfl, kz _ (uS f n way 3) _ hO hB fun I => ?_⟩
       exact a0n I J fun Al W U I => hJ _ _ _ _ _ ⟨U, 3, rfl, rfl, rfl, (by have h1 := hB2 f25; rw [hM, if_neg (fun h => h.2.1 h1), if_pos f19, if_pos h1]; revert f44; cases ex <;> simp), (fun h => by have h1 := hB2 f25; exact h.2.1 h1)⟩ (I.pick [0])
     refine zb I 44 (!ex) (false) (f44) fun Al W I => ?_
     exact a0n I J fun Al W U I => hJ _ _ _ _ _ ⟨U, k1, rfl, rfl, rfl, (by have h1 := hB2 f25; rw [hM, if_neg (fun h => h.2.1 h1), if_pos f19, if_pos h1, hk1]; revert f44; cases ex <;> simp), (fun h => by have h1 := hB2 f25; exact h.2.1 h1)⟩ (I.pick [0])
   refine zb I 19 (un) (false) (f19) fun Al W I => ?_
   refine zb I 40 (un) (false) (f19) fun Al W I => ?_
   exact a0n I J fun Al W U I => hJ _ _ _ _ _ ⟨U, k1, rfl, rfl, rfl, (by rw [hM, if_neg (fun h => by rw [f19] at h; cases h.1), if_neg (by rw [f19]; simp), hk1]; split <;> rfl), (fun h => by rw [f19] at h; cases h.1)⟩ (I.pick [0])
 rintro _ _ _ ⟨U2, k2, rfl, rfl, rfl, hk2, hlo⟩ Al W I
 rcases Bool.eq_false_or_eq_true ((((dig B32 d).length : Nat) : Int) == 0) with f51 | f51
 · refine zb I 51 ((((dig B32 d).length : Nat) : Int) == 0) (true) (f51) fun Al W I => ?_
   refine zq I (fun Al W I => (HZ k2 W _ (I.box 0 223 _)).out) fun Al W I => ?_
   rw [hV, hk2, if_neg hlo, if_pos (hz.1 (by have := beq_iff_eq.1 f51; omega))]
   exact zret I fun Al W I => i0f (k := 1) rfl I.bel (I.boxE 223 _)
 refine zb I 51 ((((dig B32 d).length : Nat) : Int) == 0) (false) (f51) fun Al W I => ?_
 refine zret I (v := fun Al => .agg #[.int .i64 2, .bool ng, .slice pp (dig B32 d).length cc, .int .i64 pw]) fun Al W I => ?_
 first | (rw [hV, hM, if_pos ⟨f19, hB1 f25, f36⟩, if_pos ⟨f19, hB1 f25, f36⟩]; exact i0f (k := 1) rfl I.bel (I.boxE 223 _)) | (rw [hV, hk2, if_neg hlo, if_neg (fun h => by have := hz.2 h; have := bnF f51; omega)]; exact ⟨pp, cc, rfl, I.fa.1, I.bel, I.boxE 223 _⟩)
theorem r1o (f : Fm) (n way : Int) (p : Pl) (pp : Option Addr) (cc base u : Nat) (w : World) (U : Bt w u 223 #[.int .i64 n, .int .i64 way, .int .i64 f.g.rad, .int .i64 f.g.digs, .int .i64 f.g.lo, .int .i64 f.g.hi, .bool f.g.grad, .int .u8 (famB f), .int .i64 0]) (hb : base ≤ w.heap.size) (G : d0k f) (hw : 1 ≤ way ∧ way ≤ 5) (ho : p.over = true) :
 Calls Tryz.prog 176 #[.pointer (some ⟨u, 0, none⟩), .agg #[.bool p.neg, .slice pp (dig B32 p.d).length cc, .int .i64 p.pow, .bool true, .bool true, .bool p.under]] w (j0t f n way 5 u w base (f.placedV p way)) := by
 have HO := fun W u hU => hi0 (k1x f n way 0 5 p u W hU G (by decide +kernel) hw ho)
 generalize f.placedV p way = v at *
 have I := Inv.startW w u 223 (uS f n way 0) [] U True.intro True.intro
 refine a0h [.p 0 0, .v (.agg #[.bool p.neg, .slice pp (dig B32 p.d).length cc, .int .i64 p.pow, .bool true, .bool true, .bool p.under])] I Tryz.func176 ?_
 refine zge I 0 223 (fun Al W I => (HO W _ (I.box 0 223 _)).out) fun Al V Iv _ _ kz => ?_
 rintro _ W ⟨p16, c16, rfl, o16, hO, hB⟩
 refine ⟨_, rfl, kz _ (uS f n way 5) _ hO hB fun I => ?_⟩
 have I := I.ownB base o16
 exact zret I fun Al W I => ⟨p16, c16, rfl, I.fa.1, I.bel, I.boxE 223 _⟩
theorem r1p (f : Fm) (n way : Int) (p : Pl) (pp : Option Addr) (cc base u : Nat) (w : World) (U : Bt w u 223 #[.int .i64 n, .int .i64 way, .int .i64 f.g.rad, .int .i64 f.g.digs, .int .i64 f.g.lo, .int .i64 f.g.hi, .bool f.g.grad, .int .u8 (famB f), .int .i64 0]) (hb : base ≤ w.heap.size) (G : d0k f) (hw : 1 ≤ way ∧ way ≤ 5) (ho : p.over = true) :
 Calls Tryz.prog 176 #[.pointer (some ⟨u, 0, none⟩), .agg #[.bool p.neg, .slice pp (dig B32 p.d).length cc, .int .i64 p.pow, .bool false, .bool true, .bool p.under]] w (j0t f n way 5 u w base (f.placedV p way)) := by
 have HO := fun W u hU => hi0 (k1x f n way 1 5 p u W hU G (by decide +kernel) hw ho)
 have HR := fun W u hU => hi0 (d0o f n way 0 1 1 u W hU (by decide +kernel))
 generalize f.placedV p way = v at *
 have I := Inv.startW w u 223 (uS f n way 0) [] U True.intro True.intro
 refine a0h [.p 0 0, .v (.agg #[.bool p.neg, .slice pp (dig B32 p.d).length cc, .int .i64 p.pow, .bool false, .bool true, .bool p.under])] I Tryz.func176 ?_
 refine zge I 0 223 (fun Al W I => (HR W _ (I.box 0 223 _)).out) fun Al V Iv _ _ kz => ?_
 rintro _ W ⟨rfl, hO, hB⟩
 refine ⟨_, rfl, kz _ (uS f n way 1) _ hO hB fun I => ?_⟩
 refine zge I 0 223 (fun Al W I => (HO W _ (I.box 0 223 _)).out) fun Al V Iv _ _ kz => ?_
 rintro _ W ⟨p16, c16, rfl, o16, hO, hB⟩
 refine ⟨_, rfl, kz _ (uS f n way 5) _ hO hB fun I => ?_⟩
 have I := I.ownB base o16
 exact zret I fun Al W I => ⟨p16, c16, rfl, I.fa.1, I.bel, I.boxE 223 _⟩
theorem n1i (f : Fm) (n way : Int) (p : Pl) (pp : Option Addr) (cc base u : Nat) (w : World) (U : Bt w u 223 #[.int .i64 n, .int .i64 way, .int .i64 f.g.rad, .int .i64 f.g.digs, .int .i64 f.g.lo, .int .i64 f.g.hi, .bool f.g.grad, .int .u8 (famB f), .int .i64 0]) (hp : Own w base .u32 143 pp cc (dig B32 p.d)) (hb : base ≤ w.heap.size) (G : d0k f) (hw : 1 ≤ way ∧ way ≤ 5) :
 Calls Tryz.prog 176 #[.pointer (some ⟨u, 0, none⟩), .agg #[.bool p.neg, .slice pp (dig B32 p.d).length cc, .int .i64 p.pow, .bool p.exact, .bool p.over, .bool p.under]] w (j0t f n way (((f.placedM p way).2 : Nat) : Int) u w base (f.placedV p way)) := by
 obtain ⟨ng, d, pw, ex, ov, un⟩ := p
 cases ov with
 | true =>
  have e : (f.placedM ⟨ng, d, pw, ex, true, un⟩ way).2 = 5 := by unfold Fm.placedM; rw [if_pos rfl]
  rw [e]
  cases ex
  · exact r1p f n way ⟨ng, d, pw, false, true, un⟩ pp cc base u w U hb G hw rfl
  · exact r1o f n way ⟨ng, d, pw, true, true, un⟩ pp cc base u w U hb G hw rfl
 | false =>
  exact pl_n f n way ng d pw pp cc base u w U hp ex un
theorem u0m (ng : Bool) (p q : Option Addr) (c d : Nat) (num den : Nat) (e : Int) (g : Gd) (way : Int) (w : World) (hp : Rd w .u32 p (dig B32 num)) (hq : Rd w .u32 q (dig B32 den))
 (hl : (dig B32 num).length ≤ 100000) (hl2 : (dig B32 den).length ≤ 100000) (hn : 0 < num) (hd : 0 < den) (he : -1000000 ≤ e ∧ e ≤ 1000000) (G : f0c g) (hw1 : 1 ≤ way) (hw2 : way ≤ 5) :
 Calls Tryz.prog 66 #[.agg #[.bool ng, .slice p (dig B32 num).length c, .slice q (dig B32 den).length d, .int .i64 e], .agg #[.int .i64 g.rad, .int .i64 g.digs, .int .i64 g.lo, .int .i64 g.hi, .bool g.grad], .int .i64 way] w (y0y w (a0q ng num den e g way)) := by
 have h := s0c ng p q c d num den e g way (theK num den e (wid g) g.digs.toNat) w hp hq hl hl2 hn hd he G hw1 hw2 (j0m hn hd e (b0n g).1 (by have := G.d1; omega))
 unfold a0q
 rw [if_neg (by omega)]
 exact h
theorem r1q (f : Fm) (n way : Int) (ng : Bool) (p q : Option Addr) (c d : Nat) (num den : Nat) (e : Int) (u : Nat) (w : World) (U : Bt w u 223 #[.int .i64 n, .int .i64 way, .int .i64 f.g.rad, .int .i64 f.g.digs, .int .i64 f.g.lo, .int .i64 f.g.hi, .bool f.g.grad, .int .u8 (famB f), .int .i64 0]) (hp : Rd w .u32 p (dig B32 num)) (hq : Rd w .u32 q (dig B32 den))
 (hl : (dig B32 num).length ≤ 100000) (hl2 : (dig B32 den).length ≤ 100000) (hn : 0 < num) (hd : 0 < den) (he : -1000000 ≤ e ∧ e ≤ 1000000) (G : d0k f) (hw : 1 ≤ way ∧ way ≤ 5) :
 Calls Tryz.prog 127 #[.pointer (some ⟨u, 0, none⟩), .agg #[.bool ng, .slice p (dig B32 num).length c, .slice q (dig B32 den).length d, .int .i64 e]] w
  (l0x f n way (((f.placedM (a0q ng num den e f.g way) way).2 : Nat) : Int) u w (f.placedV (a0q ng num den e f.g way) way)) := by
 have GG := c0a G.g
 have HF := fun W h1 h2 => hi0 (u0m ng p q c d num den e f.g way W h1 h2 hl hl2 hn hd he GG hw.1 hw.2)
 have HP := fun pp cc base u W U h1 h2 => hi0 (n1i f n way (a0q ng num den e f.g way) pp cc base u W U h1 h2 G hw)
 have hR := f1i (neg := ng) (num := num) (e := e) (way := way) hd GG
 generalize (f.placedM (a0q ng num den e f.g way) way).2 = fl at *
 generalize f.placedV (a0q ng num den e f.g way) way = v at *
 generalize a0q ng num den e f.g way = P at *
 have I := Inv.startW w u 223 (uS f n way 0) [rdF .u32 p (dig B32 num), rdF .u32 q (dig B32 den)] U ⟨hp, hq, True.intro⟩ ⟨fun hf => hp.far U (by kernel_rfl) hf.1 hf.2, fun hf => hq.far U (by kernel_rfl) hf.1 hf.2, True.intro⟩
 refine a0h [.p 0 0, .v (.agg #[.bool ng, .slice p (dig B32 num).length c, .slice q (dig B32 den).length d, .int .i64 e])] I Tryz.func127 ?_
 refine zcut I none (fun fr bx gs => ∃ (U1 : Nat → Value) (p16 : Option Addr) (c16 : Nat), fr = (.p 0 0 :: .v (.agg #[.bool ng, .slice p (dig B32 num).length c, .slice q (dig B32 den).length d, .int .i64 e]) :: .v undef :: .p 1 0 :: .p 2 0 :: sw U1 5 12 [] : List SV) ∧ bx = [⟨223, (uS f n way (fl : Int)), false⟩, ⟨25, [.v (.bool ng), .v (.slice p (dig B32 num).length c), .v (.slice q (dig B32 den).length d), .v (.int .i64 e)], false⟩, ⟨66, [.v (.int .i64 (v.cls : Int)), .v (.bool v.neg), .v (.slice p16 (dig B32 v.d).length c16), .v (.int .i64 v.pow)], false⟩] ∧ gs = [ownF w.heap.size .u32 143 p16 c16 (dig B32 v.d), rdF .u32 p (dig B32 num), rdF .u32 q (dig B32 den)]) ?_ ?_
 · intro J hJ Al W I
   refine zd [0, 2] I fun Al W I => ?_
   refine zk [0, 1, 2, 3, 4, 6, 7, 8] I fun I => ?_
   refine zo2 5 9 I (fun I => ?_) (fun I => ?_)
   · refine zn I fun Al W I => ?_
     refine zo 9 I fun I => ?_
     refine zn I fun Al W I => ?_
     refine zo 10 I fun I => ?_
     refine zqo I (fun Al W I => (HF W I.fa.1 I.fa.2.1).out) fun Al W p15 c15 I => ?_
     refine zo 11 I fun I => ?_
     refine zge I 0 223 (fun Al W I => have hzW := I.bel.size; (HP p15 c15 _ _ W (I.box 0 223 _) I.fa.1 (by omega)).out) fun Al V Iv _ _ kz => ?_
     rintro _ W ⟨p16, c16, rfl, o16, hO, hB⟩
     refine ⟨_, rfl, kz _ (uS f n way (fl : Int)) _ hO hB fun I => ?_⟩
     have I := I.own o16
     refine zo 12 I fun I => ?_
     refine zn I fun Al W I => ?_
     exact a0n I J fun Al W U I => hJ _ _ _ _ _ ⟨U, p16, c16, rfl, rfl, rfl⟩ (I.pick [0, 2, 3])
   refine zn I fun Al W I => ?_
   refine zo 5 I fun I => ?_
   refine zn I fun Al W I => ?_
   refine zo 10 I fun I => ?_
   refine zqo I (fun Al W I => (HF W I.fa.1 I.fa.2.1).out) fun Al W p15 c15 I => ?_
   refine zo 11 I fun I => ?_
   refine zge I 0 223 (fun Al W I => have hzW := I.bel.size; (HP p15 c15 _ _ W (I.box 0 223 _) I.fa.1 (by omega)).out) fun Al V Iv _ _ kz => ?_
   rintro _ W ⟨p16, c16, rfl, o16, hO, hB⟩
   refine ⟨_, rfl, kz _ (uS f n way (fl : Int)) _ hO hB fun I => ?_⟩
   have I := I.own o16
   refine zo 12 I fun I => ?_
   refine zn I fun Al W I => ?_
   exact a0n I J fun Al W U I => hJ _ _ _ _ _ ⟨U, p16, c16, rfl, rfl, rfl⟩ (I.pick [0, 2, 3])
 rintro _ _ _ ⟨U1, p16, c16, rfl, rfl, rfl⟩ Al W I
 exact zret I fun Al W I => ⟨p16, c16, rfl, I.fa.1, I.bel, I.boxE 223 _⟩
structure VrOk (r : Vr) : Prop where
 c : 1 ≤ r.cls ∧ r.cls ≤ 5
 x0 : r.cls ≠ 2 → r.x = vz
 x2 : r.cls = 2 → r.x.m ≠ 0 ∧ r.x.neg = r.neg
 bare : Bare r.x
 len : (dig B32 r.x.m).length ≤ 20
 lo : -18000 ≤ r.x.e
 hi : r.x.e ≤ 18000
def x0d (f : Fm) (n way : Int) (u : Nat) (w : World) (base : Nat) (r : Vr × Nat) (en : Ending) (w' : World) : Prop :=
 ∃ v, VRep f v r.1 ∧ j0t f n way ((r.2 : Nat) : Int) u w base v en w'
theorem x0d.mono {f : Fm} {n way : Int} {u base b' : Nat} {w w' : World} {r : Vr × Nat} {en : Ending} (h : x0d f n way u w base r en w') (hb : b' ≤ base) : x0d f n way u w b' r en w' := by
 obtain ⟨v, h1, p, k, h2, h3, h4, h5⟩ := h
 exact ⟨v, h1, p, k, h2, h3.mono hb, h4, h5⟩
structure Vp where
 v : Vl
 p : Option Addr
 c : Nat
def Vp.cells (x : Vp) : List Value := [.int .i64 (x.v.cls : Int), .bool x.v.neg, .slice x.p (dig B32 x.v.d).length x.c, .int .i64 x.v.pow]
theorem Vp.len (x : Vp) : x.cells.length = 4 := rfl
def two (a b : Vp) : List Vp := [a, b]
theorem o0g (n : Int) (w : World) : Calls Tryz.prog 64 #[.int .i64 n] w fun en w' => en = .returned (.tuple #[.agg #[.int .i64 (fmt n).g.rad, .int .i64 (fmt n).g.digs, .int .i64 (fmt n).g.lo, .int .i64 (fmt n).g.hi, .bool (fmt n).g.grad], .int .i64 (d0l n)]) ∧ Below w.heap.size w w' := by
 by_cases hn : IsFm n
 · have h0 : d0l n = 0 := by unfold d0l; rw [if_pos hn]
   rw [h0]
   have HF := fun W => hi0 (g0v n hn W)
   generalize fmt n = f at *
   have I := Inv.start w [] True.intro
   refine a0h [.v (.int .i64 n)] I Tryz.func64 ?_
   refine zq I (fun Al W I => (HF W).out) fun Al W I => ?_
   exact zrb I
 · have h0 : d0l n = 6 := by unfold d0l; rw [if_neg hn]
   rw [h0, w0v hn]
   have HF := fun W => hi0 (i0b n hn W)
   have I := Inv.start w [] True.intro
   refine a0h [.v (.int .i64 n)] I Tryz.func64 ?_
   refine zq I (fun Al W I => (HF W).out) fun Al W I => ?_
   exact zrb I
def o0h (f : Fm) (n way : Int) (w : World) (en : Ending) (w' : World) : Prop :=
 ∃ u, en = .returned (.tuple #[.pointer (some ⟨u, 0, none⟩), .int .i64 0]) ∧ w.heap.size ≤ u ∧ Bt w' u 223 #[.int .i64 n, .int .i64 way, .int .i64 f.g.rad, .int .i64 f.g.digs, .int .i64 f.g.lo, .int .i64 f.g.hi, .bool f.g.grad, .int .u8 (famB f), .int .i64 0] ∧ Below w.heap.size w w'
theorem n1j (n way : Int) (w : World) (hn : IsFm n) (hw : 1 ≤ way ∧ way ≤ 5) : Calls Tryz.prog 87 #[.int .i64 n, .int .i64 way] w (o0h (fmt n) n way w) := by
 have HG := fun W => hi0 (o0g n W)
 have he : d0l n = 0 := by unfold d0l; rw [if_pos hn]
 rw [he] at HG
 have G := c0i hn
 generalize fmt n = f at *
 have hrad := G.rad
 have hgr := G.grad
 by_cases f2 : f.fam = 2
 · have hBf : famB f = 66 := by unfold famB; rw [if_neg (by omega), if_pos f2]
   rw [if_pos f2] at hrad
   have I := Inv.start w [] True.intro
   refine a0h [.v (.int .i64 n), .v (.int .i64 way)] I Tryz.func87 ?_
   refine zq I (fun Al W I => (HG W).out) fun Al W I => ?_
   refine zb I 18 (decide (way < 1)) (false) (dFa (by omega)) fun Al W I => ?_
   refine zb I 21 (decide (way > 5)) (false) (dFa (by omega)) fun Al W I => ?_
   refine zb I 31 (f.g.rad == 16) (true) (beq_iff_eq.2 hrad) fun Al W I => ?_
   exact zret I (v := fun Al => .tuple #[.pointer (some ⟨(lk 0 Al 1), 0, none⟩), .int .i64 0]) fun Al W I => ⟨_, rfl, (I.geB 1), by rw [hBf]; exact (I.box 1 223 _), I.below⟩
 · rw [if_neg f2] at hrad
   by_cases f1 : f.fam = 1
   · have hBf : famB f = 65 := by unfold famB; rw [if_pos f1]
     rw [decide_eq_true f1] at hgr
     unfold o0h
     rw [hBf, hgr]
     simp only [hgr] at HG
     have I := Inv.start w [] True.intro
     refine a0h [.v (.int .i64 n), .v (.int .i64 way)] I Tryz.func87 ?_
     refine zq I (fun Al W I => (HG W).out) fun Al W I => ?_
     refine zb I 18 (decide (way < 1)) (false) (dFa (by omega)) fun Al W I => ?_
     refine zb I 21 (decide (way > 5)) (false) (dFa (by omega)) fun Al W I => ?_
     refine zb I 31 (f.g.rad == 16) (false) (bFn (by omega)) fun Al W I => ?_
     exact zret I fun Al W I => ⟨_, rfl, (I.geB 1), (I.box 1 223 _), I.below⟩
   · have hBf : famB f = 67 := by unfold famB; rw [if_neg f1, if_neg f2]
     rw [decide_eq_false f1] at hgr
     unfold o0h
     rw [hBf, hgr]
     simp only [hgr] at HG
     have I := Inv.start w [] True.intro
     refine a0h [.v (.int .i64 n), .v (.int .i64 way)] I Tryz.func87 ?_
     refine zq I (fun Al W I => (HG W).out) fun Al W I => ?_
     refine zb I 18 (decide (way < 1)) (false) (dFa (by omega)) fun Al W I => ?_
     refine zb I 21 (decide (way > 5)) (false) (dFa (by omega)) fun Al W I => ?_
     refine zb I 31 (f.g.rad == 16) (false) (bFn (by omega)) fun Al W I => ?_
     exact zret I fun Al W I => ⟨_, rfl, (I.geB 1), (I.box 1 223 _), I.below⟩
theorem k1y (n way fl : Int) (a : Vp) (r : Vr) (base u : Nat) (w : World) (U : Bt w u 223 #[.int .i64 n, .int .i64 way, .int .i64 (fmt n).g.rad, .int .i64 (fmt n).g.digs, .int .i64 (fmt n).g.lo, .int .i64 (fmt n).g.hi, .bool (fmt n).g.grad, .int .u8 (famB (fmt n)), .int .i64 fl]) (oa : Own w base .u32 143 a.p a.c (dig B32 a.v.d)) (hn : IsFm n) (V : VRep (fmt n) a.v r) (R : ResF (fmt n) r) (hT : TabW w) :
 Calls Tryz.prog 91 #[.pointer (some ⟨u, 0, none⟩), .agg #[.int .i64 (a.v.cls : Int), .bool a.v.neg, .slice a.p (dig B32 a.v.d).length a.c, .int .i64 a.v.pow]] w fun en w' => en = .returned (.tuple #[.string (a0c ((fmt n).strP ((fmt n).encP r.cls r.neg r.x))), .int .i64 fl, .int .i64 0]) ∧ Below w.heap.size w w' := by
 have HE := fun W (h1 : Own W base .u32 143 a.p a.c (dig B32 a.v.d)) h2 => hi0 (b1d n (a.v.cls : Int) (dinV a.v a.p a.c) W (n1h h1 V.len) h2)
 obtain ⟨e1, e2⟩ := q1p R V a.p a.c
 unfold x0a u0j at HE
 rw [if_pos hn, e1, e2] at HE
 simp only [if_true] at HE
 have HE2 : ∀ W, Own W base .u32 143 a.p a.c (dig B32 a.v.d) → TabW W → Hid (Calls Tryz.prog 154 #[.int .i64 n, .agg #[.int .i64 (a.v.cls : Int), .bool a.v.neg, .slice a.p (dig B32 a.v.d).length a.c, .int .i64 a.v.pow]] W fun en w' => en = .returned (.tuple #[.string (a0c ((fmt n).strP ((fmt n).encP r.cls r.neg r.x))), .int .i64 0]) ∧ Below W.heap.size W w') := HE
 clear HE e1 e2 V R
 generalize a0c ((fmt n).strP ((fmt n).encP r.cls r.neg r.x)) = s at *
 generalize fmt n = f at *
 have I := Inv.startR w [u] [⟨223, (uS f n way fl), true⟩] [ownF base .u32 143 a.p a.c (dig B32 a.v.d), tabF] ⟨U, True.intro⟩ ⟨oa, hT, True.intro⟩
 refine a0h [.p 0 0, .v (.agg #[.int .i64 (a.v.cls : Int), .bool a.v.neg, .slice a.p (dig B32 a.v.d).length a.c, .int .i64 a.v.pow])] I Tryz.func91 ?_
 refine zd [] I fun Al W I => ?_
 refine zk [0, 1, 2, 3, 4] I fun I => ?_
 refine zo 5 I fun I => ?_
 refine zq I (fun Al W I => (HE2 W I.fa.1 I.fa.2.1).out) fun Al W I => ?_
 refine zk [6, 7, 8, 9, 10] I fun I => ?_
 refine zd [] I fun Al W I => ?_
 refine zk [0, 1, 2, 3, 4, 5, 6, 7] I fun I => ?_
 exact zrb I
end Go.Proofs.YtbamiajjampgnaaGreatDoor
namespace Go.Slip
open Go.RowKit
theorem n1k {P : Program} {w : World} {b : Nat} {t : TypeId} {vs : Array Value} (h : Bt w b t vs) {ty : TypeId} (hT : f0r P ty) {m : Nat} (v : Value) (hv : vs[m]? = some v) : (VO.ld ty (.pointer (some (at_ (some ⟨b, 0, none⟩) m)))).sem.run P w = .ok v w := by
 have := v0j h hT m v hv
 show (Instr.loadAt _ _).run P w = _
 unfold at_
 simpa using this
end Go.Slip
namespace Go.Proofs.YtbamiajjampgnaaGreatDoor
open Go.RowKit Go.Slip
def strR (n : Int) (r : Vr) : ByteArray := a0c ((fmt n).strP ((fmt n).encP r.cls r.neg r.x))
structure VrF (f : Fm) (r : Vr) : Prop where
 ok : VrOk r
 inf : r.cls = 3 → f.fam = 1
def refD (n : Int) (s : ByteArray) : Vr := (fmt n).refN (a0y (fmt n) s)
theorem q1s {f : Fm} (G : d0k f) (neg : Bool) {e frac : Nat} (h : e < 2 ^ f.E) : (f.dec neg e frac).p = 0 ∨ (f.g.lo ≤ (f.dec neg e frac).p ∧ (f.dec neg e frac).p ≤ f.g.hi + 1) := by
 have h3 := G.hi1
 have h4 := G.hi2
 have h5 := G.hi3
 have h6 := G.fam
 have gg := (c0a G.g).le
 have e1 := G.e1
 have hE1 : (2 : Nat) ^ 7 ≤ 2 ^ f.E := Nat.pow_le_pow_right (by omega) e1
 unfold Fm.dec
 generalize 2 ^ f.E = T at *
 repeat' split
 all_goals first | exact .inl rfl | (right; simp only; omega)
theorem n1l {f : Fm} (neg : Bool) {e frac : Nat} (h : (f.dec neg e frac).c = 3) : f.fam = 1 := by
 have h : (f.dec neg e frac).cls = 3 := by
  unfold Dc.c at h
  split at h <;> omega
 unfold Fm.dec at h
 split at h
 · simp at h
 · split at h
   · rename_i k
     exact k.1
   · split at h
     · split at h <;> simp at h
     · split at h
       · simp at h
       · split at h
         · simp at h
         · split at h <;> simp at h
theorem h0m {n : Int} {s : ByteArray} (hn : IsFm n) : VrF (fmt n) (refD n s) := by
 have G := c0i hn
 have GG := c0a G.g
 obtain ⟨w1, w2, w3⟩ := l0l G.g
 have he : (fmt n).exp (a0y (fmt n) s) < 2 ^ (fmt n).E := Nat.mod_lt _ (Nat.pow_pos (by omega))
 have hx : (fmt n).frac (a0y (fmt n) s) < 2 ^ (fmt n).F := Nat.mod_lt _ (Nat.pow_pos (by omega))
 have hm := h1t (f := fmt n) ((fmt n).neg (a0y (fmt n) s)) (e := (fmt n).exp (a0y (fmt n) s)) hx
 have hp := q1s G ((fmt n).neg (a0y (fmt n) s)) (frac := (fmt n).frac (a0y (fmt n) s)) he
 have hi := fun h => n1l (f := fmt n) ((fmt n).neg (a0y (fmt n) s)) (e := (fmt n).exp (a0y (fmt n) s)) (frac := (fmt n).frac (a0y (fmt n) s)) h
 have hcls := d1v (fmt n) ((fmt n).neg (a0y (fmt n) s)) ((fmt n).exp (a0y (fmt n) s)) ((fmt n).frac (a0y (fmt n) s))
 have z2 := G.f2
 unfold refD Fm.refN Fm.decN
 generalize (fmt n).dec ((fmt n).neg (a0y (fmt n) s)) ((fmt n).exp (a0y (fmt n) s)) ((fmt n).frac (a0y (fmt n) s)) = D at *
 generalize (fmt n).neg (a0y (fmt n) s) = g at *
 generalize fmt n = f at *
 have hc : 1 ≤ D.c ∧ D.c ≤ 5 := by unfold Dc.c; split <;> omega
 have hml : (dig B32 D.m).length ≤ 3 := b0d hm (by omega)
 have wp := b0n f.g
 have hwp : -17010 ≤ (wid f.g : Int) * D.p ∧ (wid f.g : Int) * D.p ≤ 17010 := by
  rcases hp with h | ⟨h1, h2⟩
  · rw [h, Int.mul_zero]; omega
  · have a1 : (wid f.g : Int) * f.g.lo ≤ wid f.g * D.p := Int.mul_le_mul_of_nonneg_left h1 (by omega)
    have a2 : (wid f.g : Int) * D.p ≤ wid f.g * (f.g.hi + 1) := Int.mul_le_mul_of_nonneg_left h2 (by omega)
    rw [Int.mul_add, Int.mul_one] at a2
    omega
 refine ⟨⟨hc, fun h => ?_, fun h => ?_, ?_, ?_, ?_, ?_⟩, hi⟩
 · have h : ¬ D.c = 2 := h
   unfold Fm.vr
   simp only [if_neg h]
   rfl
 · have h : D.c = 2 := h
   have hm0 := k1s h
   unfold Fm.vr
   simp only [h, if_true]
   obtain ⟨b1, b2⟩ := s0m (g := g) (e := (wid f.g : Int) * D.p) hm0
   exact ⟨b2, by rw [b1]; rfl⟩
 · unfold Fm.vr
   simp only
   split
   · exact j0z _
   · exact .inr rfl
 · unfold Fm.vr
   simp only
   split
   · exact Nat.le_trans (y0m a0a _) (by show (dig B32 D.m).length ≤ _; omega)
   · show (dig B32 0).length ≤ _; rw [a0d]; decide
 · unfold Fm.vr
   simp only
   split
   · have := k1o (⟨g, D.m, wid f.g * D.p⟩ : Dv) (n := 3) hml (lo := -17100) (hi := 17100) (by simp only; omega) (by simp only; omega) (by omega) (by omega)
     omega
   · show (-18000 : Int) ≤ 0; decide
 · unfold Fm.vr
   simp only
   split
   · have := k1o (⟨g, D.m, wid f.g * D.p⟩ : Dv) (n := 3) hml (lo := -17100) (hi := 17100) (by simp only; omega) (by simp only; omega) (by omega) (by omega)
     omega
   · show (0 : Int) ≤ 18000; decide
theorem g0d {n : Int} {s : ByteArray} (h0 : a0w n s = 0) : VRep (fmt n) (decP n s) (refD n s) := by
 obtain ⟨hn, hs⟩ := b0f.1 h0
 have G := c0i hn
 have hd : decP n s = (fmt n).valN (a0y (fmt n) s) := by unfold decP; rw [if_pos h0]
 have he : (fmt n).exp (a0y (fmt n) s) < 2 ^ (fmt n).E := Nat.mod_lt _ (Nat.pow_pos (by omega))
 have hx : (fmt n).frac (a0y (fmt n) s) < 2 ^ (fmt n).F := Nat.mod_lt _ (Nat.pow_pos (by omega))
 have hb := r1i G ((fmt n).neg (a0y (fmt n) s)) he hx ((fmt n).neg (a0y (fmt n) s))
 have hk := y0t (fmt n) ((fmt n).neg (a0y (fmt n) s)) ((fmt n).decN (a0y (fmt n) s))
 have ho := i1a (fmt n) ((fmt n).neg (a0y (fmt n) s)) ((fmt n).decN (a0y (fmt n) s))
 rw [hd]
 exact ⟨rfl, rfl, fun _ => hk, fun h => ho h, hb.1, hb.2.1, hb.2.2⟩
/-! ### Results -/
def fitE (n : Int) (a : Rin) (way : Int) : Int := if IsFm n then c0e a (fmt n).g way else 6
def fitR (n : Int) (a : Rin) (way : Int) : Vr × Nat := if a.xs.length = 0 then (⟨1, false, vz⟩, 0) else (fmt n).placedM (a0q a.g (val B32 a.xs) (val B32 a.ys) a.e (fmt n).g way) way
structure r1r (n : Int) (a : Rin) (num den : Nat) (way : Int) : Prop where
 fm : IsFm n
 wy : 1 ≤ way ∧ way ≤ 5
 r0 : c0e a (fmt n).g way = 0
 t0 : e0x a = 0
 xs : a.xs = dig B32 num
 ys : a.ys = dig B32 den
 d0 : 0 < den
 lx : (dig B32 num).length ≤ 1200
 ly : (dig B32 den).length ≤ 1200
 e : -20000 ≤ a.e ∧ a.e ≤ 20000
theorem q1t {n : Int} {a : Rin} {way : Int} (h1 : ∀ x ∈ a.xs, x < B32) (h2 : ∀ x ∈ a.ys, x < B32) (h : fitE n a way = 0) : r1r n a (val B32 a.xs) (val B32 a.ys) way := by
 unfold fitE at h
 split at h
 · rename_i hn
   have hr0 : e0x a = 0 := by
    unfold c0e at h
    by_cases h : e0x a = 0
    · exact h
    · rename_i h9; rw [if_pos h] at h9; exact absurd h9 h
   have hg0 : errG (fmt n).g = 0 := (c0i hn).g
   have hw : 1 ≤ way ∧ way ≤ 5 := by
    unfold c0e at h
    rw [hr0, hg0, if_neg (by simp), if_neg (by simp)] at h
    by_cases k : way < 1 ∨ 5 < way
    · rw [if_pos k] at h; omega
    · omega
   have hx0 : b0m a.xs = 0 ∧ b0m a.ys = 0 ∧ 0 < a.ys.length ∧ -20000 ≤ a.e ∧ a.e ≤ 20000 := by
    unfold e0x at hr0
    by_cases h1 : b0m a.xs = 0
    · rw [if_neg (by simpa using h1)] at hr0
      by_cases h2 : b0m a.ys = 0
      · rw [if_neg (by simpa using h2)] at hr0
        by_cases h3 : a.ys.length = 0 ∨ a.e < -20000 ∨ 20000 < a.e
        · rw [if_pos h3] at hr0; simp at hr0
        · exact ⟨h1, h2, by omega, by omega, by omega⟩
      · rw [if_pos h2] at hr0; exact absurd hr0 h2
    · rw [if_pos h1] at hr0; exact absurd hr0 h1
   obtain ⟨hx1, hx2, hx3, hx4⟩ := hx0
   obtain ⟨ex, lx⟩ := e0t h1 hx1
   obtain ⟨ey, ly⟩ := e0t h2 hx2
   refine ⟨hn, hw, h, hr0, ex, ey, ?_, by rw [← ex]; exact lx, by rw [← ey]; exact ly, hx4⟩
   rcases Nat.eq_zero_or_pos (val B32 a.ys) with h | h
   · rw [h, a0d] at ey; rw [ey] at hx3; simp at hx3
   · exact h
 · omega
theorem j1j (n : Int) (hn : IsFm n) : ResF (fmt n) ⟨1, false, vz⟩ := by
 have := x0c (c0i hn) false
 unfold Fm.zeroM at this
 exact this
theorem f1s (n way : Int) (u : Nat) (w : World) (U : Bt w u 223 #[.int .i64 n, .int .i64 way, .int .i64 (fmt n).g.rad, .int .i64 (fmt n).g.digs, .int .i64 (fmt n).g.lo, .int .i64 (fmt n).g.hi, .bool (fmt n).g.grad, .int .u8 (famB (fmt n)), .int .i64 0]) (hn : IsFm n) (hT : TabW w) :
 Calls Tryz.prog 91 #[.pointer (some ⟨u, 0, none⟩), .agg #[.int .i64 1, .bool false, .slice none 0 0, .int .i64 0]] w fun en w' => en = .returned (.tuple #[.string (strR n ⟨1, false, vz⟩), .int .i64 0, .int .i64 0]) ∧ Below w.heap.size w w' := by
 have := k1y n way 0 ⟨⟨1, false, 0, 0⟩, none, 0⟩ ⟨1, false, vz⟩ 0 u w U (by simp only [a0d]; exact Own.nil _ _ _ _) hn (g0x (by omega)) (j1j n hn) hT
 simp only [a0d, List.length_nil] at this
 exact this
theorem n1m (n : Int) (a : Rin) (way : Int) (w : World) (ha : InR w a) (hT : TabW w) (h0 : fitE n a way = 0) :
 Calls Tryz.prog 58 #[.int .i64 n, .agg #[.bool a.g, .slice a.p a.xs.length a.c, .slice a.q a.ys.length a.d, .int .i64 a.e], .int .i64 way] w fun en w' => en = .returned (.tuple #[.string (strR n (fitR n a way).1), .int .i64 (((fitR n a way).2 : Nat) : Int), .int .i64 0]) ∧ Below w.heap.size w w' := by
 have F := q1t ha.b1 ha.b2 h0
 have hn := F.fm
 have he : d0l n = 0 := by unfold d0l; rw [if_pos hn]
 have HG := fun W => hi0 (o0g n W)
 rw [he] at HG
 have HR := fun W h1 h2 => hi0 (u0e a (fmt n).g way W ⟨h1, ha.l1, ha.b1, h2, ha.l2, ha.b2⟩)
 rw [F.r0] at HR
 have HO := fun W => hi0 (n1j n way W hn F.wy)
 have HZ := fun W u h => hi0 (k1w (fmt n) n way 0 false u W h)
 rw [Bool.false_and] at HZ
 have HT0 := fun W u h1 h2 => hi0 (f1s n way u W h1 hn h2)
 by_cases hz : a.xs.length = 0
 · have hR : fitR n a way = (⟨1, false, vz⟩, 0) := by unfold fitR; rw [if_pos hz]
   rw [hR]
   simp only
   have r1 := ha.r1
   have r2 := ha.r2
   generalize strR n ⟨1, false, vz⟩ = s at *
   generalize j0r a (fmt n).g way = P at *
   generalize fmt n = f at *
   clear F ha hR
   have I := Inv.start w [rdF .u32 a.p a.xs, rdF .u32 a.q a.ys, tabF] ⟨r1, r2, hT, True.intro⟩
   refine a0h [.v (.int .i64 n), .v (.agg #[.bool a.g, .slice a.p a.xs.length a.c, .slice a.q a.ys.length a.d, .int .i64 a.e]), .v (.int .i64 way)] I Tryz.func58 ?_
   refine zq I (fun Al W I => (HG W).out) fun Al W I => ?_
   refine zg I (fun Al W I => (HR W I.fa.1 I.fa.2.1).out) fun Al V Iv _ hB _ kz => ?_
   rintro _ W ⟨p27, c27, rfl, -, hb⟩
   refine ⟨_, rfl, kz _ _ hb fun I => ?_⟩
   refine zg I (fun Al W I => (HO W).out) fun Al V Iv _ hB _ kz => ?_
   rintro _ W ⟨u36, rfl, hge, hB, hb⟩
   refine ⟨_, rfl, kz _ _ hb fun I => ?_⟩
   refine q1c Iv hb 3 u36 223 [(.int .i64 n), (.int .i64 way), (.int .i64 f.g.rad), (.int .i64 f.g.digs), (.int .i64 f.g.lo), (.int .i64 f.g.hi), (.bool f.g.grad), (.int .u8 (famB f)), (.int .i64 0)] hge hB fun Al hAl_36 I => ?_
   refine q1d I 37 3 u36 hAl_36 fun Al W I => ?_
   refine zb I 42 ((a.xs.length : Int) == 0) (true) (beq_iff_eq.2 (by omega)) fun Al W I => ?_
   refine zq I (fun Al W I => (HZ W _ (I.box 3 223 _)).out) fun Al W I => ?_
   refine zq I (fun Al W I => (HT0 W _ (I.box 3 223 _) I.fa.2.2.1).out) fun Al W I => ?_
   exact zrb I
 · have hxs : a.xs = dig B32 (val B32 a.xs) := F.xs
   have hn0 : 0 < val B32 a.xs := by
    rcases Nat.eq_zero_or_pos (val B32 a.xs) with h | h
    · rw [h, a0d] at hxs; rw [hxs] at hz; simp at hz
    · exact h
   have HF := fun W u h1 h2 h3 => hi0 (r1q (fmt n) n way a.g a.p a.q a.c a.d (val B32 a.xs) (val B32 a.ys) a.e u W h1 h2 h3 (by have := F.lx; omega) (by have := F.ly; omega) hn0 F.d0 (by have := F.e; omega) (c0i hn) F.wy)
   have hR : fitR n a way = (fmt n).placedM (a0q a.g (val B32 a.xs) (val B32 a.ys) a.e (fmt n).g way) way := by unfold fitR; rw [if_neg hz]
   have PA := l0q (c0i hn) (neg := a.g) (num := val B32 a.xs) (den := val B32 a.ys) (e := a.e) (way := way) F.d0
   rw [← F.xs, ← F.ys, ← hR] at HF
   rw [← hR] at PA
   have HT := fun W v p c base fl u h1 h2 h3 h4 => hi0 (k1y n way fl ⟨v, p, c⟩ (fitR n a way).1 base u W h1 h2 hn h3 PA.1 h4)
   have hV := PA.2
   have hs : strR n (fitR n a way).1 = a0c ((fmt n).strP ((fmt n).encP (fitR n a way).1.cls (fitR n a way).1.neg (fitR n a way).1.x)) := rfl
   rw [← hs] at HT
   have r1 := ha.r1
   have r2 := ha.r2
   clear hs PA hR F ha
   generalize strR n (fitR n a way).1 = s at *
   generalize (fitR n a way).2 = fl at *
   generalize (fitR n a way).1 = r at *
   generalize (fmt n).placedV (a0q a.g (val B32 a.xs) (val B32 a.ys) a.e (fmt n).g way) way = v at *
   generalize j0r a (fmt n).g way = P at *
   generalize fmt n = f at *
   have I := Inv.start w [rdF .u32 a.p a.xs, rdF .u32 a.q a.ys, tabF] ⟨r1, r2, hT, True.intro⟩
   refine a0h [.v (.int .i64 n), .v (.agg #[.bool a.g, .slice a.p a.xs.length a.c, .slice a.q a.ys.length a.d, .int .i64 a.e]), .v (.int .i64 way)] I Tryz.func58 ?_
   refine zq I (fun Al W I => (HG W).out) fun Al W I => ?_
   refine zg I (fun Al W I => (HR W I.fa.1 I.fa.2.1).out) fun Al V Iv _ hB _ kz => ?_
   rintro _ W ⟨p27, c27, rfl, -, hb⟩
   refine ⟨_, rfl, kz _ _ hb fun I => ?_⟩
   refine zg I (fun Al W I => (HO W).out) fun Al V Iv _ hB _ kz => ?_
   rintro _ W ⟨u36, rfl, hge, hB, hb⟩
   refine ⟨_, rfl, kz _ _ hb fun I => ?_⟩
   refine q1c Iv hb 3 u36 223 [(.int .i64 n), (.int .i64 way), (.int .i64 f.g.rad), (.int .i64 f.g.digs), (.int .i64 f.g.lo), (.int .i64 f.g.hi), (.bool f.g.grad), (.int .u8 (famB f)), (.int .i64 0)] hge hB fun Al hAl_36 I => ?_
   refine q1d I 37 3 u36 hAl_36 fun Al W I => ?_
   refine zb I 42 ((a.xs.length : Int) == 0) (false) (bFn (by omega)) fun Al W I => ?_
   refine zge I 3 223 (fun Al W I => (HF W _ (I.box 3 223 _) I.fa.1 I.fa.2.1).out) fun Al V Iv _ _ kz => ?_
   rintro _ W ⟨p53, c53, rfl, o53, hO, hB⟩
   refine ⟨_, rfl, kz _ (uS f n way (fl : Int)) _ hO hB fun I => ?_⟩
   have I := I.own o53
   refine zq I (fun Al W I => (HT W v p53 c53 _ (fl : Int) _ (I.box 3 223 _) I.fa.1 hV I.fa.2.2.2.1).out) fun Al W I => ?_
   exact zrb I
theorem j1k (n : Int) (a : Rin) (way : Int) (w : World) (ha : InR w a) (hT : TabW w) (h0 : fitE n a way ≠ 0) :
 Calls Tryz.prog 58 #[.int .i64 n, .agg #[.bool a.g, .slice a.p a.xs.length a.c, .slice a.q a.ys.length a.d, .int .i64 a.e], .int .i64 way] w fun en w' => en = .returned (.tuple #[.string (a0c []), .int .i64 0, .int .i64 (fitE n a way)]) ∧ Below w.heap.size w w' := by
 have HG := fun W => hi0 (o0g n W)
 have r1 := ha.r1
 have r2 := ha.r2
 by_cases hn : IsFm n
 · have he : d0l n = 0 := by unfold d0l; rw [if_pos hn]
   rw [he] at HG
   have hE : fitE n a way = c0e a (fmt n).g way := by unfold fitE; rw [if_pos hn]
   rw [hE] at h0 ⊢
   have HR := fun W h1 h2 => hi0 (u0e a (fmt n).g way W ⟨h1, ha.l1, ha.b1, h2, ha.l2, ha.b2⟩)
   generalize c0e a (fmt n).g way = er at *
   generalize j0r a (fmt n).g way = P at *
   generalize fmt n = f at *
   have I := Inv.start w [rdF .u32 a.p a.xs, rdF .u32 a.q a.ys, tabF] ⟨r1, r2, hT, True.intro⟩
   refine a0h [.v (.int .i64 n), .v (.agg #[.bool a.g, .slice a.p a.xs.length a.c, .slice a.q a.ys.length a.d, .int .i64 a.e]), .v (.int .i64 way)] I Tryz.func58 ?_
   refine zq I (fun Al W I => (HG W).out) fun Al W I => ?_
   refine zg I (fun Al W I => (HR W I.fa.1 I.fa.2.1).out) fun Al V Iv _ hB _ kz => ?_
   rintro _ W ⟨p27, c27, rfl, -, hb⟩
   refine ⟨_, rfl, kz _ _ hb fun I => ?_⟩
   refine zb I 31 (er != 0) (true) (bne_iff_ne.2 h0) fun Al W I => ?_
   exact zrb I
 · have he : d0l n = 6 := by unfold d0l; rw [if_neg hn]
   rw [he] at HG
   have hE : fitE n a way = 6 := by unfold fitE; rw [if_neg hn]
   rw [hE]
   generalize fmt n = f at *
   have I := Inv.start w [] True.intro
   refine a0h [.v (.int .i64 n), .v (.agg #[.bool a.g, .slice a.p a.xs.length a.c, .slice a.q a.ys.length a.d, .int .i64 a.e]), .v (.int .i64 way)] I Tryz.func58 ?_
   refine zq I (fun Al W I => (HG W).out) fun Al W I => ?_
   exact zrb I
theorem n1n {f : Fm} (G : d0k f) {r : Vr} (R : ResF f r) : CanF f r.cls r.neg r.x :=
 ⟨R.c, R.c1, fun h => ⟨d1y G (R.c2 h).1 (R.c2 h).2.2.1, (R.c2 h).2.1, (R.c2 h).2.2.1, (R.c2 h).2.2.2⟩, R.c3, R.c4, R.c5⟩
theorem z0g {n : Int} (hn : IsFm n) {r : Vr} (R : ResF (fmt n) r) : a0w n (strR n r) = 0 ∧ refD n (strR n r) = r := by
 have G := c0i hn
 have C := n1n G R
 have hlt := m1p G (cls := r.cls) (g := r.neg) (d := r.x) (fun h => (C.c2 h).1)
 have hs : (strR n r).size = (fmt n).size := by unfold strR; rw [a0o]; exact m1o _ _ _ _
 refine ⟨b0f.2 ⟨hn, hs⟩, ?_⟩
 have hv := m1r G C
 obtain ⟨q1, q2, q3⟩ := d1x (f := fmt n) (neg := ((fmt n).encP r.cls r.neg r.x).neg) hlt.1 hlt.2
 unfold refD Fm.refN Fm.decN strR Fm.strP
 rw [x0b G hlt.1 hlt.2, q1, q2, q3, hv]
 by_cases h2 : r.cls = 2
 · rw [if_pos h2]
 · rw [if_neg h2, show (⟨false, 0, 0⟩ : Dv) = r.x from (R.x0 h2).symm]
end Go.Proofs.YtbamiajjampgnaaGreatDoor
namespace Go.Slip
open Go.RowKit
theorem zlv {P : Program} {Q : Exit → Act → World → Prop} {E : List Nat} {w0 : World} {A : List Nat} {fs : List PF} {W : World} {c : Cfg} (I : Inv E w0 A c.bx fs W) (d n : Nat) (t : TypeId) (xs : List Nat) (hx : xs = [n])
 (h : ∀ A W p, Inv E w0 A (putc (zr P (some d) c) (.v (.slice p xs.length 1))).bx (rfF w0.heap.size p 1 xs :: fs) W → G P Q A (putc (zr P (some d) c) (.v (.slice p xs.length 1))) W)
 (ho : ∀ A w, i0y P (zr P (some d) c) A w = some (.ok (.value (.slice (some ⟨w.heap.size, 0, none⟩) 1 1)) (w.alloc (.cells #[.int .i64 (n : Int)] t))) := by intro _ _; kernel_rfl)
 (hr : ∀ A w, (zms P (some d) 5000 c A w).map (·.1) = (zms P (some d) 5000 c A w).map (·.2) := by intro _ _; kernel_rfl)
 (hm : ok1 (zr P (some d) c).rg (zr P (some d) c).bx = ok2 (zr P (some d) c).rg := by kernel_rfl) : G P Q A c W :=
 b0u I hr fun A W I => by
  have ho := ho A W
  have h := h A
  clear hr
  subst hx
  generalize zr P (some d) c = c at *
  unfold i0y at ho
  split at ho
  · rename_i o hn
    split at ho
    · rename_i hw
      refine G_op (E := E) (w0 := w0) (fs := []) hn fun K hK => x0y o.dst rfl (.slice (some ⟨W.heap.size, 0, none⟩) 1 1) #[.int .i64 (n : Int)] t (by rw [f0s]; exact hw) (by rw [c0j]; exact Option.some.inj ho) fun W' hb _ hB => ?_
      have I2 : Inv E w0 A c.bx (rfF w0.heap.size (some ⟨W.heap.size, 0, none⟩) 1 [n] :: fs) W' := (I.past hb).add (rfF w0.heap.size (some ⟨W.heap.size, 0, none⟩) 1 [n]) ((o1r hB).mono I.bel.size) fun a ha hf => by
       have h1 := I.lt a ha
       have h2 : W.heap.size = a := hf.2
       omega
      have h := h W' (some ⟨W.heap.size, 0, none⟩) I2
      unfold putc at h
      rw [hn] at h
      have := hK A W' _ c.bx (List.prefix_refl _) (I2.pick []) hm h
      rw [show Value.slice (some ⟨W.heap.size, 0, none⟩) 1 1 = (SV.v (.slice (some ⟨W.heap.size, 0, none⟩) [n].length 1)).r A from rfl, d0n]
      exact this
    · cases ho
  · cases ho
end Go.Slip
namespace Go.Proofs.YtbamiajjampgnaaGreatDoor
open Go.RowKit Go.Slip
structure Wp where
 r : Vr
 p : Option Addr
 c : Nat
def Wp.cells (x : Wp) : List Value := [.int .i64 (x.r.cls : Int), .bool x.r.neg, .bool x.r.x.neg, .slice x.p (dig B16 x.r.x.m).length x.c, .int .i64 x.r.x.e]
theorem Wp.len (x : Wp) : x.cells.length = 5 := rfl
theorem q1u : f0r Tryz.prog 3 := e0m (by kernel_rfl) (by kernel_rfl)
end Go.Proofs.YtbamiajjampgnaaGreatDoor
namespace Go.Slip
open Go.RowKit
theorem zlb {P : Program} {Q : Exit → Act → World → Prop} {E : List Nat} {w0 : World} {A : List Nat} {fs : List PF} {W : World} {c : Cfg} (I : Inv E w0 A c.bx fs W) (d n : Nat) (t : TypeId) (cs : Array Value)
 (h : ∀ A W b, Inv E w0 A (putc (zr P (some d) c) (.v (.slice (some ⟨b, 0, none⟩) n n))).bx (btF b t cs :: fs) W → G P Q A (putc (zr P (some d) c) (.v (.slice (some ⟨b, 0, none⟩) n n))) W)
 (ho : ∀ A w, i0y P (zr P (some d) c) A w = some (.ok (.value (.slice (some ⟨w.heap.size, 0, none⟩) n n)) (w.alloc (.cells cs t))) := by intro _ _; kernel_rfl)
 (hr : ∀ A w, (zms P (some d) 5000 c A w).map (·.1) = (zms P (some d) 5000 c A w).map (·.2) := by intro _ _; kernel_rfl)
 (hm : ok1 (zr P (some d) c).rg (zr P (some d) c).bx = ok2 (zr P (some d) c).rg := by kernel_rfl) : G P Q A c W :=
 b0u I hr fun A W I => by
  have ho := ho A W
  have h := h A
  clear hr
  generalize zr P (some d) c = c at *
  unfold i0y at ho
  split at ho
  · rename_i o hn
    split at ho
    · rename_i hw
      refine G_op (E := E) (w0 := w0) (fs := []) hn fun K hK => x0y o.dst rfl (.slice (some ⟨W.heap.size, 0, none⟩) n n) cs t (by rw [f0s]; exact hw) (by rw [c0j]; exact Option.some.inj ho) fun W' hb _ hB => ?_
      have I2 : Inv E w0 A c.bx (btF W.heap.size t cs :: fs) W' := (I.past hb).add (btF W.heap.size t cs) hB fun a ha hf => by
       have h1 := I.lt a ha
       have h2 : W.heap.size = a := hf
       omega
      have h := h W' W.heap.size I2
      unfold putc at h
      rw [hn] at h
      have := hK A W' _ c.bx (List.prefix_refl _) (I2.pick []) hm h
      rw [show Value.slice (some ⟨W.heap.size, 0, none⟩) n n = (SV.v (.slice (some ⟨W.heap.size, 0, none⟩) n n)).r A from rfl, d0n]
      exact this
    · cases ho
  · cases ho
theorem f0h (s : ByteArray) : a0c (a0b s) = s := by
 unfold a0c a0b
 rw [List.map_map, show (UInt8.ofNat ∘ UInt8.toNat) = id from funext fun x => by simp]
 simp
theorem s0n {s r : ByteArray} (h : a0b s = a0b r) : s = r := by rw [← f0h s, h, f0h]
theorem n1o {s : ByteArray} : s = ByteArray.mk #[] ↔ a0b s = [] := ⟨fun h => by subst h; rfl, fun h => s0n (by rw [h]; rfl)⟩
def Byt (l : List Nat) : Prop := ∀ x ∈ l, x < 256
theorem Byt.of (s : ByteArray) : Byt (a0b s) := p0j s
theorem Byt.drop {l : List Nat} (h : Byt l) (k : Nat) : Byt (l.drop k) := fun x hx => h x (List.mem_of_mem_drop hx)
theorem Byt.take {l : List Nat} (h : Byt l) (k : Nat) : Byt (l.take k) := fun x hx => h x (List.mem_of_mem_take hx)
theorem Byt.append {l m : List Nat} (h : Byt l) (k : Byt m) : Byt (l ++ m) := fun x hx => (List.mem_append.1 hx).elim (h x) (k x)
theorem j0u {l : List Nat} (h : Byt l) (i j : Nat) : (a0c l).extract i j = a0c ((l.take j).drop i) := s0n (by rw [d0e, a0s h, a0s ((h.take j).drop i)])
theorem n1p (xs ys : List Nat) : a0c xs ++ a0c ys = a0c (xs ++ ys) := by
 apply ByteArray.ext
 simp [a0c]
theorem s0o {l : List Nat} (h : Byt l) : a0c l = ByteArray.mk #[] ↔ l = [] := by rw [n1o, a0s h]
section
variable {P : Program} {W : World}
theorem j1l {s r : ByteArray} (h : s.size + r.size ≤ 9223372036854775807) {t : TypeId} {x y : Operand} : (do eqGuard .add t x y (.string s) (.string r); binOp .add t (.string s) (.string r) : Sem Value).run P W = .ok (.string (s ++ r)) W := by
 simp [go_sem, eqGuard, h]
theorem m0i {s r : ByteArray} {b : Bool} (h : (s = r) ↔ b = true) {t : TypeId} {x y : Operand} : (do eqGuard .eql t x y (.string s) (.string r); binOp .eql t (.string s) (.string r) : Sem Value).run P W = .ok (.bool b) W := by
 cases b
 · have : ¬ s = r := fun k => by have := h.1 k; cases this
   have k : ¬ s.toList = r.toList := fun e => this (by rw [Lib.toList_data, Lib.toList_data] at e; rw [← Lib.mk_data s, e, Lib.mk_data])
   simp [go_sem, eqGuard, k]
 · have := h.2 rfl
   subst this
   simp [go_sem, eqGuard]
theorem z0h {s r : ByteArray} {b : Bool} (h : (s = r) ↔ b = false) {t : TypeId} {x y : Operand} : (do eqGuard .neq t x y (.string s) (.string r); binOp .neq t (.string s) (.string r) : Sem Value).run P W = .ok (.bool b) W := by
 cases b
 · have := h.2 rfl
   subst this
   simp [go_sem, eqGuard]
 · have : ¬ s = r := fun k => by have := h.1 k; cases this
   have k : ¬ s.toList = r.toList := fun e => this (by rw [Lib.toList_data, Lib.toList_data] at e; rw [← Lib.mk_data s, e, Lib.mk_data])
   simp [go_sem, eqGuard, k]
theorem l0y {t : TypeId} (ht : P.underlying t = some .string) {s : ByteArray} {i : Int} {j : Nat} (hi : i = j) (hj : j < s.size) : (VO.sx t (.string s) (.int .i64 i)).sem.run P W = .ok (.int .u8 ((dg (a0b s) j : Nat) : Int)) W := by
 subst hi
 rw [← p0i s j hj]
 simp [VO.sem, go_sem, ht, hj]
theorem i0g {t : TypeId} (ht : P.underlying t = some .string) {s : ByteArray} {lo : Option Value} {hi : Option Value} {i j : Nat} (h1 : lo = none ∧ i = 0 ∨ lo = some (.int .i64 i)) (h2 : hi = none ∧ j = s.size ∨ hi = some (.int .i64 j)) (hij : i ≤ j) (hj : j ≤ s.size) : (VO.sl t (.string s) lo hi none).sem.run P W = .ok (.string (s.extract i j)) W := by
 rcases h1 with ⟨rfl, rfl⟩ | rfl <;> rcases h2 with ⟨rfl, rfl⟩ | rfl <;> simp [VO.sem, go_sem, ht, hij, hj]
end
end Go.Slip
namespace Go.Slip
def mayT (c : Nat) : List Nat → Bool × List Nat
 | b :: r => if b = c then (true, r) else (false, b :: r)
 | [] => (false, [])
theorem m0j {l : List Nat} (h : Byt l) (c : Nat) : Byt (mayT c l).2 := by
 cases l with
 | nil => exact h
 | cons b r =>
  show Byt (if b = c then (true, r) else (false, b :: r)).2
  split
  · exact h.drop 1
  · exact h
theorem k1z {l : List Nat} {j : Nat} (hj : j ≤ l.length) (h : ∀ i, i < j → isDg (dg l i) = true) (hs : j < l.length → isDg (dg l j) = false) : l.takeWhile isDg = l.take j ∧ l.dropWhile isDg = l.drop j := by
 have e := List.take_append_drop j l
 have h1 : ∀ x ∈ l.take j, isDg x = true := fun x hx => by
  obtain ⟨i, hi, rfl⟩ := List.mem_iff_getElem.1 hx
  rw [List.getElem_take]
  have := h i (by rw [List.length_take] at hi; omega)
  rwa [b0e (by rw [List.length_take] at hi; omega)] at this
 rcases Nat.lt_or_ge j l.length with h2 | h2
 · have h3 := hs h2
   rw [b0e h2] at h3
   have h4 := n0r h3 (l.drop (j + 1)) h1
   rw [← List.drop_eq_getElem_cons h2, e] at h4
   exact h4
 · have h4 := y0u h1
   rw [List.take_of_length_le h2] at h4 ⊢
   rw [List.drop_of_length_le h2]
   exact h4
end Go.Slip
namespace Go.Proofs.YtbamiajjampgnaaGreatDoor
open Go.RowKit Go.Slip
theorem uSt : Tryz.prog.underlying 9 = some .string := by kernel_rfl
theorem n1q (l : List Nat) (hb : Byt l) (c u : Nat) (w : World) (U : Bt w u 170 #[.string (a0c l)]) :
 Calls Tryz.prog 106 #[.pointer (some ⟨u, 0, none⟩), .int .u8 (c : Int)] w fun en w' => en = .returned (.bool (mayT c l).1) ∧ Kp [u] w w' ∧ Bt w' u 170 #[.string (a0c (mayT c l).2)] := by
 cases l with
 | nil =>
  have I := Inv.startW w u 170 [.v (.string (a0c []))] [] U True.intro True.intro
  refine a0h [.p 0 0, .v (.int .u8 (c : Int))] I Tryz.func106 ?_
  refine zbin I 9 _ (fun _ _ _ _ _ => m0i (s := a0c []) (r := ⟨#[]⟩) (iff_of_true rfl rfl)) fun Al W I => ?_
  exact zret I fun Al W I => ⟨rfl, I.bel, I.boxE 170 _⟩
 | cons b r =>
  have hn : a0c (b :: r) ≠ ByteArray.mk #[] := fun h => by have := (s0o hb).1 h; cases this
  have h0 : dg (a0b (a0c (b :: r))) 0 = b := by rw [a0s hb]; rfl
  have hz : 0 < (a0c (b :: r)).size := by rw [a0o]; exact Nat.succ_pos _
  have hd : (a0c (b :: r)).extract 1 (a0c (b :: r)).size = a0c r := by rw [j0u hb, a0o, List.take_length]; rfl
  rw [show mayT c (b :: r) = if b = c then (true, r) else (false, b :: r) from rfl]
  generalize hs : a0c (b :: r) = s at *
  have I := Inv.startW w u 170 [.v (.string s)] [] U True.intro True.intro
  refine a0h [.p 0 0, .v (.int .u8 (c : Int))] I Tryz.func106 ?_
  refine zbin I 9 _ (fun _ _ _ _ _ => m0i (s := s) (r := ⟨#[]⟩) (b := false) (iff_of_false hn Bool.false_ne_true)) fun Al W I => ?_
  refine zx I 15 (fun _ => .int .u8 (b : Int)) (fun Al W I => (by rw [← h0]; exact l0y uSt rfl hz)) fun Al W I => ?_
  rcases Bool.eq_false_or_eq_true ((b : Int) != (c : Int)) with f17 | f17
  · refine zb I 17 ((b : Int) != (c : Int)) (true) (f17) fun Al W I => ?_
    refine zret I (v := fun Al => .bool false) fun Al W I => ?_
    first | (rw [if_neg (fun h => bne_iff_ne.1 f17 (by rw [h]))]; exact ⟨rfl, I.bel, hs ▸ I.boxE 170 _⟩) | (rw [if_pos (by have h : (b : Int) = c := (by simpa using f17); omega)]; exact ⟨rfl, I.bel, I.boxE 170 _⟩)
  refine zb I 17 ((b : Int) != (c : Int)) (false) (f17) fun Al W I => ?_
  refine zx I 24 (fun _ => .string (a0c r)) (fun Al W I => (by rw [← hd]; exact i0g uSt (.inr rfl) (.inl ⟨rfl, rfl⟩) hz (Nat.le_refl _))) fun Al W I => ?_
  refine zret I (v := fun Al => .bool true) fun Al W I => ?_
  first | (rw [if_neg (fun h => bne_iff_ne.1 f17 (by rw [h]))]; exact ⟨rfl, I.bel, hs ▸ I.boxE 170 _⟩) | (rw [if_pos (by have h : (b : Int) = c := (by simpa using f17); omega)]; exact ⟨rfl, I.bel, I.boxE 170 _⟩)
theorem b1g (l : List Nat) (hb : Byt l) (hl : l.length ≤ 1000000000) (u : Nat) (w : World) (U : Bt w u 170 #[.string (a0c l)]) :
 Calls Tryz.prog 107 #[.pointer (some ⟨u, 0, none⟩)] w fun en w' => en = .returned (.string (a0c (l.takeWhile isDg))) ∧ Kp [u] w w' ∧ Bt w' u 170 #[.string (a0c (l.dropWhile isDg))] := by
 have hg : a0b (a0c l) = l := a0s hb
 have hz : (a0c l).size = l.length := a0o l
 have ht := fun j => j0u hb 0 j
 have hd : ∀ j, (a0c l).extract j (a0c l).size = a0c (l.drop j) := fun j => by rw [j0u hb, a0o, List.take_length]
 have hT := fun (j : Nat) h1 h2 h3 => k1z (l := l) (j := j) h1 h2 h3
 generalize a0c l = s at *
 have I := Inv.startW w u 170 [.v (.string s)] [] U True.intro True.intro
 refine a0h [.p 0 0] I Tryz.func107 ?_
 refine n0e I (fun gk fr bx gs => ∃ (U900 : Nat → Value) (j : Nat), fr = (.p 0 0 :: .v undef :: .v (Go.Value.string (ByteArray.mk #[])) :: .v (.int .i64 (j : Int)) :: .v undef :: sw U900 5 43 [] : List SV) ∧ bx = [⟨170, [.v (.string s)], false⟩] ∧ gs = [] ∧ (j ≤ l.length) ∧ (∀ i, i < j → isDg (dg l i) = true) ∧ (gk + j = l.length)) l.length (fun Al W U I => ⟨_, ⟨U, 0, rfl, rfl, rfl, (Nat.zero_le _), (fun i hi => absurd hi (Nat.not_lt_zero i)), (Nat.add_zero _)⟩, I.pick []⟩) ?_
 rintro J0 gk0 _ _ _ ⟨U900, j, rfl, rfl, rfl, hj, hall, hgk⟩ hJ0 Al W I
 rcases Bool.eq_false_or_eq_true (decide ((j : Int) < (s.size : Int))) with f11 | f11
 · refine zb I 11 (decide ((j : Int) < (s.size : Int))) (true) (f11) fun Al W I => ?_
   refine zx I 18 (fun _ => .int .u8 ((dg l j : Nat) : Int)) (fun Al W I => (by rw [← hg]; exact l0y uSt rfl (by have := oTr f11; omega))) fun Al W I => ?_
   rcases Bool.eq_false_or_eq_true (decide (((dg l j : Nat) : Int) ≥ 48)) with f19 | f19
   · refine zb I 19 (decide (((dg l j : Nat) : Int) ≥ 48)) (true) (f19) fun Al W I => ?_
     refine zx I 27 (fun _ => .int .u8 ((dg l j : Nat) : Int)) (fun Al W I => (by rw [← hg]; exact l0y uSt rfl (by have := oTr f11; omega))) fun Al W I => ?_
     rcases Bool.eq_false_or_eq_true (decide (((dg l j : Nat) : Int) ≤ 57)) with f28 | f28
     · refine zb I 28 (decide (((dg l j : Nat) : Int) ≤ 57)) (true) (f28) fun Al W I => ?_
       refine zi I 31 .i64 ((j : Int) + 1) ((((j + 1 : Nat) : Int))) ((by have := oTr f11; exact iwo)) fun Al W I => ?_
       exact a0n I J0 fun Al W U I => hJ0 (gk0 - 1) _ _ _ _ _ ((by have := oTr f11; omega)) ⟨U, j + 1, rfl, rfl, rfl, (by have := oTr f11; omega), (fun i hi => by have := oTr f19; have := oTr f28; exact (Nat.lt_or_ge i j).elim (fun h => hall i h) (fun h => by rw [show i = j by omega]; exact r0r (by omega))), (by have := oTr f11; omega)⟩ (I.pick [])
     refine zb I 28 (decide (((dg l j : Nat) : Int) ≤ 57)) (false) (f28) fun Al W I => ?_
     refine zx I 37 (fun _ => .string (s.extract 0 j)) (fun Al W I => (i0g uSt (.inl ⟨rfl, rfl⟩) (.inr rfl) (Nat.zero_le _) (by omega))) fun Al W I => ?_
     refine zx I 44 (fun _ => .string (s.extract j s.size)) (fun Al W I => (i0g uSt (.inr rfl) (.inl ⟨rfl, rfl⟩) (by omega) (Nat.le_refl _))) fun Al W I => ?_
     have hst : j < l.length → isDg (dg l j) = false := fun hjl => by (first | (have := oFa f11; exfalso; omega) | (have := oFa f19; unfold isDg; rw [decide_eq_false (by omega)]; rfl) | (have := oFa f28; unfold isDg; rw [decide_eq_false (p := dg l j ≤ 57) (by omega), Bool.and_false]))
     obtain ⟨e1, e2⟩ := hT j hj hall hst
     rw [e1, e2, ← hd j]
     exact zret I (v := fun Al => .string (s.extract 0 j)) fun Al W I => ⟨by rw [ht j]; rfl, I.bel, I.boxE 170 _⟩
   refine zb I 19 (decide (((dg l j : Nat) : Int) ≥ 48)) (false) (f19) fun Al W I => ?_
   refine zx I 37 (fun _ => .string (s.extract 0 j)) (fun Al W I => (i0g uSt (.inl ⟨rfl, rfl⟩) (.inr rfl) (Nat.zero_le _) (by omega))) fun Al W I => ?_
   refine zx I 44 (fun _ => .string (s.extract j s.size)) (fun Al W I => (i0g uSt (.inr rfl) (.inl ⟨rfl, rfl⟩) (by omega) (Nat.le_refl _))) fun Al W I => ?_
   have hst : j < l.length → isDg (dg l j) = false := fun hjl => by (first | (have := oFa f11; exfalso; omega) | (have := oFa f19; unfold isDg; rw [decide_eq_false (by omega)]; rfl) | (have := oFa f28; unfold isDg; rw [decide_eq_false (p := dg l j ≤ 57) (by omega), Bool.and_false]))
   obtain ⟨e1, e2⟩ := hT j hj hall hst
   rw [e1, e2, ← hd j]
   exact zret I (v := fun Al => .string (s.extract 0 j)) fun Al W I => ⟨by rw [ht j]; rfl, I.bel, I.boxE 170 _⟩
 refine zb I 11 (decide ((j : Int) < (s.size : Int))) (false) (f11) fun Al W I => ?_
 refine zx I 37 (fun _ => .string (s.extract 0 j)) (fun Al W I => (i0g uSt (.inl ⟨rfl, rfl⟩) (.inr rfl) (Nat.zero_le _) (by omega))) fun Al W I => ?_
 refine zx I 44 (fun _ => .string (s.extract j s.size)) (fun Al W I => (i0g uSt (.inr rfl) (.inl ⟨rfl, rfl⟩) (by omega) (Nat.le_refl _))) fun Al W I => ?_
 have hst : j < l.length → isDg (dg l j) = false := fun hjl => by (first | (have := oFa f11; exfalso; omega) | (have := oFa f19; unfold isDg; rw [decide_eq_false (by omega)]; rfl) | (have := oFa f28; unfold isDg; rw [decide_eq_false (p := dg l j ≤ 57) (by omega), Bool.and_false]))
 obtain ⟨e1, e2⟩ := hT j hj hall hst
 rw [e1, e2, ← hd j]
 exact zret I (v := fun Al => .string (s.extract 0 j)) fun Al W I => ⟨by rw [ht j]; rfl, I.bel, I.boxE 170 _⟩
end Go.Proofs.YtbamiajjampgnaaGreatDoor
namespace Go.Proofs.YtbamiajjampgnaaGreatDoor
def x0e : Go.Shelf.Ren := ⟨fun | 161 => 45 | 231 => 109 | 227 => 110 | 233 => 111 | 235 => 112 | 228 => 162 | 197 => 163 | 151 => 164 | 260 => 194 | 152 => 195 | 137 => 202 | 119 => 203 | 224 => 204 | 225 => 205 | 217 => 214 | 266 => 221 | n => n, fun | 9 => 9 | 4 => 4 | 3 => 3 | 5 => 5 | 117 => 182 | 116 => 181 | 0 => 0 | 124 => 185 | 105 => 233 | 21 => 21 | 119 => 263 | 46 => 178 | 139 => 266 | 138 => 265 | n => n, fun | 3 => 3 | 4 => 4 | n => n⟩
theorem n1r : Go.Proofs.Lays.n161 Tryz.prog x0e := by constructor <;> first | (intros; kernel_rfl) | (constructor <;> (intros; kernel_rfl))
def x0f : Go.Shelf.Ren := ⟨fun | 172 => 108 | 244 => 160 | 245 => 161 | 247 => 189 | 279 => 190 | 280 => 191 | 281 => 192 | 282 => 193 | 287 => 199 | 316 => 200 | 171 => 142 | 205 => 201 | 321 => 212 | 322 => 213 | 243 => 183 | 246 => 197 | 283 => 208 | 284 => 209 | 285 => 210 | 286 => 211 | 129 => 217 | 317 => 216 | 318 => 218 | 319 => 219 | 320 => 220 | 337 => 165 | 338 => 222 | n => n, fun | 9 => 9 | 3 => 3 | 75 => 174 | 76 => 175 | 4 => 4 | 5 => 5 | 167 => 248 | 37 => 156 | 0 => 0 | 85 => 249 | 2 => 2 | 168 => 251 | 53 => 177 | 175 => 257 | 46 => 178 | 210 => 261 | 127 => 277 | 145 => 280 | 143 => 278 | 21 => 21 | 171 => 271 | 173 => 274 | 212 => 282 | 51 => 143 | 20 => 20 | 213 => 283 | 232 => 255 | 233 => 285 | 80 => 172 | n => n, fun | 15 => 1 | 16 => 2 | 17 => 6 | 18 => 0 | 19 => 7 | n => n⟩
theorem n1s : Go.Proofs.Lays.n172 Tryz.prog x0f := by constructor <;> first | (intros; kernel_rfl) | (constructor <;> (intros; kernel_rfl))
def u0n : Go.Shelf.Ren := ⟨fun | 171 => 142 | 243 => 183 | 246 => 197 | 283 => 208 | 284 => 209 | 285 => 210 | 286 => 211 | 129 => 217 | 317 => 216 | 318 => 218 | 319 => 219 | 320 => 220 | 337 => 165 | 338 => 222 | n => n, fun | 3 => 3 | 9 => 9 | 2 => 2 | 4 => 4 | 171 => 271 | 0 => 0 | 53 => 177 | 37 => 156 | 5 => 5 | 173 => 274 | 212 => 282 | 51 => 143 | 20 => 20 | 213 => 283 | 46 => 178 | 232 => 255 | 233 => 285 | n => n, fun | 17 => 6 | 18 => 0 | 19 => 7 | n => n⟩
theorem j1m : Go.Proofs.LaysM.n171 Tryz.prog u0n := by constructor <;> first | (intros; kernel_rfl) | (constructor <;> (intros; kernel_rfl))
end Go.Proofs.YtbamiajjampgnaaGreatDoor
namespace Go.Slip
open Go.RowKit
theorem u0o (d : Nat) (h : d < 10) : (UInt8.ofNat (48 + d)).toNat = d + 48 := by rw [UInt8.toNat_ofNat', Nat.mod_eq_of_lt (by omega)]; omega
theorem q0a (u : Nat) : (Lib.decDigits u).map UInt8.toNat = b0j u := by
 have hz : ∀ v, 0 < v → b0j v = (dig 10 v).reverse.map (· + 48) := fun v h => by unfold b0j; rw [if_neg (by omega)]
 induction u using Nat.strongRecOn with
 | _ u ih =>
  rw [Lib.decDigits]
  by_cases h : u < 10
  · rw [dif_pos h, List.map_cons, List.map_nil, u0o u h]
    by_cases h0 : u = 0
    · subst h0; rfl
    · rw [hz u (by omega), d0b (B := 10) (by omega) (by omega), Nat.mod_eq_of_lt h, Nat.div_eq_of_lt h, a0d]; rfl
  · rw [dif_neg h, List.map_append, ih (u / 10) (by omega), List.map_cons, List.map_nil, u0o _ (Nat.mod_lt _ (by omega)), hz u (by omega), hz (u / 10) (by omega), d0b (B := 10) (n := u) (by omega) (by omega)]
    simp
theorem b1h (n : Int) : (⟨(Lib.itoa n).toArray⟩ : ByteArray) = a0c (f0v n) := by
 apply s0n
 have hb : Byt (f0v n) := by
  intro x hx
  unfold f0v at hx
  split at hx
  · rcases List.mem_cons.1 hx with rfl | hx
    · omega
    · have := g0u _ x hx; omega
  · have := g0u _ x hx; omega
 rw [a0s hb]
 unfold a0b Lib.itoa f0v
 split
 · rw [show (-n).toNat = n.natAbs by omega, ← q0a]; rfl
 · rw [← q0a]
theorem q0b : ∀ (l : List UInt8) (a : Nat), (∀ y ∈ l, isDg y.toNat = true) → Lib.decFrom a l = some ((l.map UInt8.toNat).foldl (fun a b => 10 * a + (b - 48)) a)
 | [], a, _ => rfl
 | b :: r, a, h => by
  have h1 := c0d.1 (h b List.mem_cons_self)
  have h2 := q0b r (a * 10 + (b.toNat - 48)) fun y hy => h y (List.mem_cons_of_mem b hy)
  rw [Lib.decFrom]
  unfold Lib.digitVal
  rw [if_pos h1]
  simp only
  rw [h2, List.map_cons, List.foldl_cons, Nat.mul_comm a 10]
theorem j1n {m : List UInt8} (hd : ∀ y ∈ m, isDg y.toNat = true) (h2 : m ≠ []) : Lib.atoi m = some ((a0k (m.map UInt8.toNat) : Nat) : Int) := by
 cases m with
 | nil => exact absurd rfl h2
 | cons b r =>
  have hb1 := c0d.1 (hd b List.mem_cons_self)
  have hn : ∀ k : UInt8, k.toNat < 48 → (b == k) = false := fun k hk => bFn fun h => by subst h; omega
  unfold Lib.atoi
  simp only [hn 45 (by decide), hn 43 (by decide), Bool.false_eq_true, if_false]
  unfold Lib.decNat
  rw [if_neg (by simp), q0b _ _ hd]
  rfl
theorem n1t {x : List Nat} (hb : Byt x) (h1 : ∀ y ∈ x, isDg y = true) (h2 : x ≠ []) : Lib.atoi (a0c x).data.toList = some ((a0k x : Nat) : Int) := by
 have e : (a0c x).data.toList.map UInt8.toNat = x := a0s hb
 have k := j1n (m := (a0c x).data.toList) (fun y hy => h1 _ (by rw [← e]; exact List.mem_map_of_mem hy)) (fun h => h2 (by rw [← e, h]; rfl))
 rw [e] at k
 exact k
theorem f1t {l : List Nat} : ∀ x ∈ l.dropWhile (· == 48), x ∈ l := fun _ hx => List.dropWhile_sublist _ |>.subset hx
theorem b1i (l : List Nat) (hb : Byt l) : (⟨(Lib.trimLeftB (a0c l).data.toList 48).toArray⟩ : ByteArray) = a0c (l.dropWhile (· == 48)) := by
 apply s0n
 rw [a0s fun x hx => hb x (f1t x hx)]
 have e : (a0c l).data.toList.map UInt8.toNat = l := a0s hb
 have key : ∀ m : List UInt8, (m.dropWhile (· == 48)).map UInt8.toNat = (m.map UInt8.toNat).dropWhile (· == 48) := by
  intro m
  induction m with
  | nil => rfl
  | cons b r ih =>
   rw [List.map_cons, List.dropWhile_cons, List.dropWhile_cons]
   by_cases h : b = 48
   · subst h; simpa using ih
   · have h1 : (b == 48) = false := bFn h
     have h2 : (b.toNat == 48) = false := bFn fun k => h (UInt8.toNat_inj.1 (by rw [k]; rfl))
     rw [h1, h2]; rfl
 have := key (a0c l).data.toList
 rw [e] at this
 exact this
theorem b1j (l : List Nat) : a0k (l.dropWhile (· == 48)) = a0k l := by
 induction l with
 | nil => rfl
 | cons b r ih =>
  rw [List.dropWhile_cons]
  split
  · rename_i h
    rw [ih, beq_iff_eq.1 h]
    rfl
  · rfl
end Go.Slip
namespace Go.Proofs.YtbamiajjampgnaaGreatDoor
open Go.RowKit Go.Slip
def PowW (w : World) : Prop := Lib.TabIs Tryz.prog w "internal/strconv.uint64pow10" .u64 Lib.pow10Tab ∧ 6 < w.heap.size
theorem PowW.same {w w' : World} (h : PowW w) (hb : w'.heap[6]? = w.heap[6]?) (hs : w.heap.size ≤ w'.heap.size) : PowW w' := by
 refine ⟨?_, Nat.lt_of_lt_of_le h.2 hs⟩
 have h1 := h.1
 unfold Lib.TabIs World.var? at h1 ⊢
 rw [show Tryz.prog.globalNamed "internal/strconv.uint64pow10" = some 6 by kernel_rfl] at h1 ⊢
 simp only [Option.bind_some] at h1 ⊢
 rw [hb]; exact h1
def powF : PF := ⟨PowW, fun a => 6 = a, fun _ _ h hb hs => h.same (hb _ h.2 rfl) hs, fun _ _ h hf => hf ▸ h.2⟩
theorem PowW.past {w w' : World} (h : PowW w) (hb : Below w.heap.size w w') : PowW w' := h.same (hb.block _ h.2) hb.size
theorem j1o (x : List Nat) (h1 : ∀ y ∈ x, isDg y = true) (h2 : x ≠ []) (h3 : x.length ≤ 5) (w : World) : Calls Tryz.prog 108 #[.string (a0c x)] w fun en w' => en = .returned (.tuple #[.int .i64 ((a0k x : Nat) : Int), .nilIface]) ∧ Below w.heap.size w w' := by
 have hb : Byt x := fun y hy => by have := c0d.1 (h1 y hy); omega
 refine (Any.strconv_Atoi n1s (a0c x) _ (by rw [a0o]; omega) (n1t hb h1 h2) w).mono ?_
 rintro e w' ⟨rfl, t, rfl⟩
 exact ⟨rfl, f0b (Nat.le_refl _) _ _⟩
theorem j1p (n : Int) (h : -9223372036854775808 ≤ n ∧ n ≤ 9223372036854775807) (w : World) (hT : PowW w) : Calls Tryz.prog 142 #[.int .i64 n] w fun en w' => en = .returned (.string (a0c (f0v n))) ∧ Below w.heap.size w w' := by
 refine (Any.strconv_Itoa j1m n h.1 h.2 w hT.1).mono ?_
 rintro e w' ⟨rfl, k, os, rfl⟩
 refine ⟨by rw [b1h], ?_⟩
 exact ⟨rfl, rfl, rfl, by simp [Sort.grow], fun b hb => by simp [Sort.grow]; rw [Array.getElem?_append_left hb]⟩
theorem j1q (l : List Nat) (hb : Byt l) (w : World) : Calls Tryz.prog 45 #[.string (a0c l), .string ⟨#[48]⟩] w fun en w' => en = .returned (.string (a0c (l.dropWhile (· == 48)))) ∧ Below w.heap.size w w' := by
 refine (Any.strings_TrimLeft_one n1r (a0c l) 48 (by decide) w).mono ?_
 rintro e w' ⟨rfl, rfl⟩
 exact ⟨by rw [b1i l hb], Below.refl _ _⟩
end Go.Proofs.YtbamiajjampgnaaGreatDoor
namespace Go.Proofs.YtbamiajjampgnaaGreatDoor
open Go.ChangeShapes Go.WideShapes Go.ChangeAt Go.RowKit Go.Slip
def g0n : List (String × DataW Unit) := [("math/bits.deBruijn32tab", Rows.laid_math_bits_deBruijn32tab), ("math/bits.deBruijn64tab", Rows.laid_math_bits_deBruijn64tab), ("internal/strconv.uint64pow10", Rows.laid_internal_strconv_uint64pow10), ("unicode/utf8.acceptRanges", Rows.laid_unicode_utf8_acceptRanges), ("strconv.ErrRange", Rows.laid_strconv_ErrRange), ("strconv.ErrSyntax", Rows.laid_strconv_ErrSyntax), ("unicode/utf8.first", Rows.laid_unicode_utf8_first)]
theorem f1u : g0n.filter (fun x => x.1 == "math/bits.deBruijn32tab") = [("math/bits.deBruijn32tab", Rows.laid_math_bits_deBruijn32tab)] := by kernel_rfl
theorem f1v : g0n.filter (fun x => x.1 == "internal/strconv.uint64pow10") = [("internal/strconv.uint64pow10", Lib.tabData .u64 Lib.pow10Tab)] := by kernel_rfl
theorem s0p {W : World} (h : laidMetH Tryz.prog g0n W) : TabW W ∧ PowW W := by
 have h1 := h.filter (fun x => x.1 == "math/bits.deBruijn32tab")
 have h2 := h.filter (fun x => x.1 == "internal/strconv.uint64pow10")
 rw [f1u] at h1
 rw [f1v, MakeChecks.laidMetH_plain _ _ _ (by kernel_rfl)] at h2
 have hg : Tryz.prog.globalNamed "internal/strconv.uint64pow10" = some 6 := by kernel_rfl
 have h3 := Lib.tabIs_of_head (t := 282) (e := 177) (n := 20) hg (by kernel_rfl) (by kernel_rfl) (by kernel_rfl) (by kernel_rfl) (by kernel_rfl) h2
 exact ⟨v0i h1, h3, World.block_lt_of_cell? W _ (h3.cell hg 0 (by decide))⟩
end Go.Proofs.YtbamiajjampgnaaGreatDoor
namespace Go.Slip
open Go.RowKit
theorem u0p (l : List Nat) : m0b l = mayT 45 l := by
 cases l with
 | nil => rfl
 | cons b r =>
  rw [show mayT 45 (b :: r) = if b = 45 then (true, r) else (false, b :: r) from rfl]
  split
  · rename_i h; subst h; rfl
  · rename_i h; exact r0s r h
theorem i0h (l : List Nat) : o0s l = if (mayT 46 l).1 = true then (if (mayT 46 l).2.takeWhile isDg = [] then none else some ((mayT 46 l).2.takeWhile isDg, (mayT 46 l).2.dropWhile isDg)) else some ([], (mayT 46 l).2) := by
 cases l with
 | nil => rfl
 | cons b r =>
  rw [show mayT 46 (b :: r) = if b = 46 then (true, r) else (false, b :: r) from rfl]
  by_cases h : b = 46
  · subst h; rfl
  · rw [if_neg h, p0r r h]; rfl
theorem s0q (l : List Nat) : powT l = if (mayT 101 l).1 = true then (if (mayT 45 (mayT 101 l).2).2.takeWhile isDg = [] ∨ 5 < ((mayT 45 (mayT 101 l).2).2.takeWhile isDg).length then none else some (if (mayT 45 (mayT 101 l).2).1 then -(a0k ((mayT 45 (mayT 101 l).2).2.takeWhile isDg) : Int) else a0k ((mayT 45 (mayT 101 l).2).2.takeWhile isDg), (mayT 45 (mayT 101 l).2).2.dropWhile isDg)) else some (0, (mayT 101 l).2) := by
 cases l with
 | nil => rfl
 | cons b r =>
  rw [show mayT 101 (b :: r) = if b = 101 then (true, r) else (false, b :: r) from rfl]
  by_cases h : b = 101
  · subst h
    rw [if_pos rfl, if_pos rfl, ← u0p]
    rfl
  · rw [if_neg h, if_neg Bool.false_ne_true]
    unfold powT
    split
    · rename_i heq
      injection heq with h1 _
      exact absurd h1 h
    · rfl
theorem o0i (l : List Nat) : (∀ x ∈ l.takeWhile isDg, isDg x = true ∧ x ∈ l) ∧ (∀ x ∈ l.dropWhile isDg, x ∈ l) ∧ (l.takeWhile isDg).length ≤ l.length ∧ (l.dropWhile isDg).length ≤ l.length := by
 induction l with
 | nil => exact ⟨fun _ h => (nomatch h), fun x hx => hx, Nat.le_refl _, Nat.le_refl _⟩
 | cons b r ih =>
  obtain ⟨h1, h2, h3, h4⟩ := ih
  rw [List.takeWhile_cons, List.dropWhile_cons]
  cases hb : isDg b
  · exact ⟨fun _ h => (nomatch h), fun x hx => hx, Nat.zero_le _, Nat.le_refl _⟩
  · rw [if_pos rfl, if_pos rfl]
    refine ⟨fun x hx => ?_, fun x hx => List.mem_cons_of_mem _ (h2 x hx), by rw [List.length_cons, List.length_cons]; omega, by rw [List.length_cons]; omega⟩
    rcases List.mem_cons.1 hx with rfl | hx
    · exact ⟨hb, List.mem_cons_self⟩
    · exact ⟨(h1 x hx).1, List.mem_cons_of_mem _ (h1 x hx).2⟩
theorem f1w {l : List Nat} (h : Byt l) : Byt (l.takeWhile isDg) ∧ Byt (l.dropWhile isDg) := ⟨fun x hx => h x ((o0i l).1 x hx).2, fun x hx => h x ((o0i l).2.1 x hx)⟩
theorem i0u (c : Nat) (l : List Nat) : (mayT c l).2.length ≤ l.length := by
 cases l with
 | nil => exact Nat.le_refl _
 | cons b r =>
  rw [show mayT c (b :: r) = if b = c then (true, r) else (false, b :: r) from rfl]
  split
  · exact Nat.le_succ _
  · exact Nat.le_refl _
def numE (g : Bool) (d : List Nat) (pw : Int) (l : List Nat) : Option Numl :=
 if d = [] then none else match powT l with | none => none | some (e, r) => if r = [] then some ⟨g, d, e + pw⟩ else none
theorem x0g (l : List Nat) : numl l = match o0s ((mayT 45 l).2.dropWhile isDg) with | none => none | some (f, r) => numE (mayT 45 l).1 ((mayT 45 l).2.takeWhile isDg ++ f) (-(f.length : Int)) r := by
 unfold numl
 rw [u0p]
 rfl
theorem e0q {o : Option Numl} {g : Bool} {d : List Nat} {pw e q : Int} {l r : List Nat} (h : o = numE g d pw l) (hd : d.isEmpty = false) (hp : powT l = some (e, r)) (hq : q = e + pw) : o = if r.isEmpty = true then some ⟨g, d, q⟩ else none := by
 subst hq
 rw [h]
 unfold numE
 rw [if_neg (fun k => by rw [k] at hd; cases hd), hp]
 cases r <;> rfl
abbrev LN := List Nat
theorem f0i {P : Program} {W : World} (xs ys : List Nat) (h : xs.length + ys.length ≤ 9223372036854775807) {t : TypeId} {x y : Operand} : (do eqGuard .add t x y (.string (a0c xs)) (.string (a0c ys)); binOp .add t (.string (a0c xs)) (.string (a0c ys)) : Sem Value).run P W = .ok (.string (a0c (xs ++ ys))) W := by
 rw [← n1p]
 exact j1l (by rw [a0o, a0o]; exact h)
theorem f0j {P : Program} {W : World} {l : List Nat} (h : Byt l) {t : TypeId} {x y : Operand} : (do eqGuard .eql t x y (.string (a0c l)) (.string ⟨#[]⟩); binOp .eql t (.string (a0c l)) (.string ⟨#[]⟩) : Sem Value).run P W = .ok (.bool l.isEmpty) W :=
 m0i ((s0o h).trans List.isEmpty_iff.symm)
end Go.Slip
namespace Go.Proofs.YtbamiajjampgnaaGreatDoor
open Go.RowKit Go.Slip
theorem x0h (t : ByteArray) (w : World) (ht : t.size ≤ 1000) :
 Calls Tryz.prog 43 #[.string t] w fun en w' => ∃ g ds pw ok, en = .returned (.tuple #[.bool g, .string (a0c ds), .int .i64 pw, .bool ok]) ∧ (numl (a0b t) = (if ok = true then some ⟨g, ds, pw⟩ else none) ∧ Byt ds) ∧ Below w.heap.size w w' := by
 have hb0 := Byt.of t
 have hl0 : (a0b t).length ≤ 1000 := by rw [a0z]; exact ht
 have hN := x0g (a0b t)
 have hst := f0h t
 generalize a0b t = l0 at *
 rw [← hst]
 clear hst
 have hM := fun c l hb u W U => hi0 (n1q l hb c u W U)
 have hD := fun l hb hl u W U => hi0 (b1g l hb hl u W U)
 have hA := fun x h1 h2 h3 W => hi0 (j1o x h1 h2 h3 W)
 -- the parts, one behind the other
 have hb1 := m0j hb0 45
 have hl1 := i0u 45 l0
 obtain ⟨g, l1, e1⟩ : ∃ g l1, mayT 45 l0 = (g, l1) := ⟨_, _, rfl⟩
 have m1 := hM 45 l0 hb0
 rw [e1] at hb1 hl1 m1
 have hb2 := f1w hb1
 have hs2 := o0i l1
 have d2 := hD l1 hb1 (by simp only at hl1; omega)
 rw [e1] at hN
 simp only at hN hb1 hl1 hb2 hs2 m1
 generalize l1.takeWhile isDg = d at *
 generalize l1.dropWhile isDg = l2 at *
 rw [i0h] at hN
 have hb3 := m0j hb2.2 46
 have hl3 := i0u 46 l2
 have m3 := hM 46 l2 hb2.2
 obtain ⟨p, l3, e3⟩ : ∃ p l3, mayT 46 l2 = (p, l3) := ⟨_, _, rfl⟩
 rw [e3] at hb3 hl3 m3 hN
 have hb4 := f1w hb3
 have hs4 := o0i l3
 have d4 := hD l3 hb3 (by simp only at hl3; omega)
 simp only at hN hb3 hl3 hb4 hs4 m3
 generalize l3.takeWhile isDg = f at *
 generalize l3.dropWhile isDg = l4 at *
 have hN1 : numl l0 = (match (if p = true then if f = [] then none else some (f, l4) else some ([], l3) : Option (List Nat × List Nat)) with | none => none | some (f, r) => numE g (d ++ f) (-(f.length : Int)) r) := hN
 clear hN
 have I := Inv.start w [] True.intro
 refine a0h [.v (.string (a0c l0))] I Tryz.func43 ?_
 refine zge I 0 170 (fun Al W I => (m1 _ W (I.box 0 170 _)).out) fun Al V Iv _ _ kz => ?_
 rintro _ W ⟨rfl, hO, hB⟩
 refine ⟨_, rfl, kz _ [.v (.string (a0c l1))] _ hO hB fun I => ?_⟩
 refine zge I 0 170 (fun Al W I => (d2 _ W (I.box 0 170 _)).out) fun Al V Iv _ _ kz => ?_
 rintro _ W ⟨rfl, hO, hB⟩
 refine ⟨_, rfl, kz _ [.v (.string (a0c l2))] _ hO hB fun I => ?_⟩
 refine zge I 0 170 (fun Al W I => (m3 _ W (I.box 0 170 _)).out) fun Al V Iv _ _ kz => ?_
 rintro _ W ⟨rfl, hO, hB⟩
 refine ⟨_, rfl, kz _ [.v (.string (a0c l3))] _ hO hB fun I => ?_⟩
 refine zcut I (some 2000023) (fun fr bx gs => ∃ (U1 : Nat → Value) (D : LN) (pw : Int) (lr : LN), fr = (.v (.string (a0c l0)) :: .v undef :: sw U1 2 4 (.p 0 0 :: .v (.bool g) :: .v (.string (a0c D)) :: .v (.int .i64 pw) :: .v (U1 10) :: su 3 (sw U1 14 9 (.v (.bool p) :: sw U1 24 11 (.v undef :: .v (U1 36) :: .v undef :: sw U1 38 10 (.v undef :: sw U1 49 5 (.v undef :: sw U1 55 13 [])))))) : List SV) ∧ bx = [⟨170, [.v (.string (a0c lr))], false⟩] ∧ gs = [] ∧ (numl l0 = numE g D pw lr) ∧ (Byt D) ∧ (Byt lr) ∧ (lr.length ≤ 1000) ∧ (-1000 ≤ pw ∧ pw ≤ 0)) ?_ ?_
 · intro J hJ Al W I
   rcases Bool.eq_false_or_eq_true p with rfl | rfl
   · refine zge I 0 170 (fun Al W I => (d4 _ W (I.box 0 170 _)).out) fun Al V Iv _ _ kz => ?_
     rintro _ W ⟨rfl, hO, hB⟩
     refine ⟨_, rfl, kz _ [.v (.string (a0c l4))] _ hO hB fun I => ?_⟩
     rcases Bool.eq_false_or_eq_true (f.isEmpty) with f27 | f27
     · refine zbin I 27 (.bool true) (fun _ _ _ _ W => ((f0j hb4.1)).trans (congrArg (fun z => Result.ok (Value.bool z) W) (show (f.isEmpty) = true from f27))) fun Al W I => ?_
       refine zret I (v := fun Al => .tuple #[.bool false, Go.Value.string (ByteArray.mk #[]), .int .i64 0, .bool false]) fun Al W I => ?_
       first | exact ⟨false, [], 0, false, rfl, ⟨by rw [hN1, if_pos rfl, if_pos (List.isEmpty_iff.1 f27)]; rfl, fun _ h => (nomatch h)⟩, I.below⟩ | exact ⟨false, [], 0, false, rfl, ⟨by rw [hN2]; unfold numE; rw [if_pos (List.isEmpty_iff.1 f35)]; rfl, fun _ h => (nomatch h)⟩, I.below⟩ | exact ⟨false, [], 0, false, rfl, ⟨by rw [hN2]; unfold numE; rw [if_neg (fun h => by rw [h] at f35; cases f35), hP, if_pos (by first | exact .inl (List.isEmpty_iff.1 f43) | exact .inr (by have := oTr f47; rw [a0o] at this; omega))]; rfl, fun _ h => (nomatch h)⟩, I.below⟩ | exact ⟨g, D, q, le.isEmpty, rfl, ⟨e0q hN2 f35 hQ (by omega), hbD⟩, I.below⟩
     refine zbin I 27 (.bool false) (fun _ _ _ _ W => ((f0j hb4.1)).trans (congrArg (fun z => Result.ok (Value.bool z) W) (show (f.isEmpty) = false from f27))) fun Al W I => ?_
     refine zbin I 30 _ (fun _ _ _ _ _ => (f0i d f (by omega))) fun Al W I => ?_
     refine zi I 33 .i64 (0 - (((a0c f).size : Nat) : Int)) ((-(f.length : Int))) ((by rw [a0o, Int.zero_sub]; exact iwo)) fun Al W I => ?_
     exact a0n I J fun Al W U I => hJ _ _ _ _ _ ⟨U, (d ++ f), (-(f.length : Int)), l4, rfl, rfl, rfl, (by rw [hN1, if_pos rfl, if_neg (fun h => by rw [h] at f27; cases f27)]), (hb2.1.append hb4.1), hb4.2, (by omega), (by omega)⟩ (I.pick [])
   exact a0n I J fun Al W U I => hJ _ _ _ _ _ ⟨U, d, 0, l3, rfl, rfl, rfl, (by rw [hN1, if_neg Bool.false_ne_true]; simp), hb2.1, hb3, (by omega), (by omega)⟩ (I.pick [])
 rintro _ _ _ ⟨U1, D, pw, lr, rfl, rfl, rfl, hN2, hbD, hbl, hll, hpw⟩ Al W I
 rcases Bool.eq_false_or_eq_true (D.isEmpty) with f35 | f35
 · refine zbin I 35 (.bool true) (fun _ _ _ _ W => ((f0j hbD)).trans (congrArg (fun z => Result.ok (Value.bool z) W) (show (D.isEmpty) = true from f35))) fun Al W I => ?_
   refine zret I (v := fun Al => .tuple #[.bool false, Go.Value.string (ByteArray.mk #[]), .int .i64 0, .bool false]) fun Al W I => ?_
   first | exact ⟨false, [], 0, false, rfl, ⟨by rw [hN1, if_pos rfl, if_pos (List.isEmpty_iff.1 f27)]; rfl, fun _ h => (nomatch h)⟩, I.below⟩ | exact ⟨false, [], 0, false, rfl, ⟨by rw [hN2]; unfold numE; rw [if_pos (List.isEmpty_iff.1 f35)]; rfl, fun _ h => (nomatch h)⟩, I.below⟩ | exact ⟨false, [], 0, false, rfl, ⟨by rw [hN2]; unfold numE; rw [if_neg (fun h => by rw [h] at f35; cases f35), hP, if_pos (by first | exact .inl (List.isEmpty_iff.1 f43) | exact .inr (by have := oTr f47; rw [a0o] at this; omega))]; rfl, fun _ h => (nomatch h)⟩, I.below⟩ | exact ⟨g, D, q, le.isEmpty, rfl, ⟨e0q hN2 f35 hQ (by omega), hbD⟩, I.below⟩
 refine zbin I 35 (.bool false) (fun _ _ _ _ W => ((f0j hbD)).trans (congrArg (fun z => Result.ok (Value.bool z) W) (show (D.isEmpty) = false from f35))) fun Al W I => ?_
 have hb5 := m0j hbl 101
 have hl5 := i0u 101 lr
 have m5 := hM 101 lr hbl
 have hP := s0q lr
 obtain ⟨pe, l5, e5⟩ : ∃ pe l5, mayT 101 lr = (pe, l5) := ⟨_, _, rfl⟩
 rw [e5] at hb5 hl5 m5 hP
 simp only at hb5 hl5 m5 hP
 refine zge I 0 170 (fun Al W I => (m5 _ W (I.box 0 170 _)).out) fun Al V Iv _ _ kz => ?_
 rintro _ W ⟨rfl, hO, hB⟩
 refine ⟨_, rfl, kz _ [.v (.string (a0c l5))] _ hO hB fun I => ?_⟩
 refine zcut I (some 2000037) (fun fr bx gs => ∃ (U2 : Nat → Value) (q : Int) (le : LN), fr = (.v (.string (a0c l0)) :: .v undef :: sw U2 2 4 (.p 0 0 :: .v (.bool g) :: .v (.string (a0c D)) :: .v (.int .i64 q) :: .v (U1 10) :: sw U2 11 12 (.v (.bool p) :: sw U2 24 3 (.v (U1 27) :: sw U2 28 7 (.v (.bool false) :: .v (U2 36) :: .v (.bool pe) :: sw U2 38 30 [])))) : List SV) ∧ bx = [⟨170, [.v (.string (a0c le))], false⟩] ∧ gs = [] ∧ (powT lr = some (q - pw, le)) ∧ (Byt le)) ?_ ?_
 · intro J hJ Al W I
   rcases Bool.eq_false_or_eq_true pe with rfl | rfl
   · rw [if_pos rfl] at hP
     have hb6 := m0j hb5 45
     have hl6 := i0u 45 l5
     have m6 := hM 45 l5 hb5
     obtain ⟨mi, l6, e6⟩ : ∃ mi l6, mayT 45 l5 = (mi, l6) := ⟨_, _, rfl⟩
     rw [e6] at hb6 hl6 m6 hP
     have d6 := hD l6 hb6 (by simp only at hl6; omega)
     simp only at hb6 hl6 m6 hP
     have hb7 := f1w hb6
     have hs7 := o0i l6
     generalize l6.takeWhile isDg = x at *
     generalize l6.dropWhile isDg = l7 at *
     have hx10 : x.length ≤ 5 → a0k x < 100000 := fun h => Nat.lt_of_lt_of_le (g0b x fun j hj => by rw [b0e hj]; exact (c0d.1 (hs7.1 _ (List.getElem_mem hj)).1).2) (Nat.pow_le_pow_right (n := 10) (by omega) h)
     refine zge I 0 170 (fun Al W I => (m6 _ W (I.box 0 170 _)).out) fun Al V Iv _ _ kz => ?_
     rintro _ W ⟨rfl, hO, hB⟩
     refine ⟨_, rfl, kz _ [.v (.string (a0c l6))] _ hO hB fun I => ?_⟩
     refine zge I 0 170 (fun Al W I => (d6 _ W (I.box 0 170 _)).out) fun Al V Iv _ _ kz => ?_
     rintro _ W ⟨rfl, hO, hB⟩
     refine ⟨_, rfl, kz _ [.v (.string (a0c l7))] _ hO hB fun I => ?_⟩
     rcases Bool.eq_false_or_eq_true (x.isEmpty) with f43 | f43
     · refine zbin I 43 (.bool true) (fun _ _ _ _ W => ((f0j hb7.1)).trans (congrArg (fun z => Result.ok (Value.bool z) W) (show (x.isEmpty) = true from f43))) fun Al W I => ?_
       refine zret I (v := fun Al => .tuple #[.bool false, Go.Value.string (ByteArray.mk #[]), .int .i64 0, .bool false]) fun Al W I => ?_
       first | exact ⟨false, [], 0, false, rfl, ⟨by rw [hN1, if_pos rfl, if_pos (List.isEmpty_iff.1 f27)]; rfl, fun _ h => (nomatch h)⟩, I.below⟩ | exact ⟨false, [], 0, false, rfl, ⟨by rw [hN2]; unfold numE; rw [if_pos (List.isEmpty_iff.1 f35)]; rfl, fun _ h => (nomatch h)⟩, I.below⟩ | exact ⟨false, [], 0, false, rfl, ⟨by rw [hN2]; unfold numE; rw [if_neg (fun h => by rw [h] at f35; cases f35), hP, if_pos (by first | exact .inl (List.isEmpty_iff.1 f43) | exact .inr (by have := oTr f47; rw [a0o] at this; omega))]; rfl, fun _ h => (nomatch h)⟩, I.below⟩ | exact ⟨g, D, q, le.isEmpty, rfl, ⟨e0q hN2 f35 hQ (by omega), hbD⟩, I.below⟩
     refine zbin I 43 (.bool false) (fun _ _ _ _ W => ((f0j hb7.1)).trans (congrArg (fun z => Result.ok (Value.bool z) W) (show (x.isEmpty) = false from f43))) fun Al W I => ?_
     rcases Bool.eq_false_or_eq_true (decide ((((a0c x).size : Nat) : Int) > 5)) with f47 | f47
     · refine zb I 47 (decide ((((a0c x).size : Nat) : Int) > 5)) (true) (f47) fun Al W I => ?_
       refine zret I (v := fun Al => .tuple #[.bool false, Go.Value.string (ByteArray.mk #[]), .int .i64 0, .bool false]) fun Al W I => ?_
       first | exact ⟨false, [], 0, false, rfl, ⟨by rw [hN1, if_pos rfl, if_pos (List.isEmpty_iff.1 f27)]; rfl, fun _ h => (nomatch h)⟩, I.below⟩ | exact ⟨false, [], 0, false, rfl, ⟨by rw [hN2]; unfold numE; rw [if_pos (List.isEmpty_iff.1 f35)]; rfl, fun _ h => (nomatch h)⟩, I.below⟩ | exact ⟨false, [], 0, false, rfl, ⟨by rw [hN2]; unfold numE; rw [if_neg (fun h => by rw [h] at f35; cases f35), hP, if_pos (by first | exact .inl (List.isEmpty_iff.1 f43) | exact .inr (by have := oTr f47; rw [a0o] at this; omega))]; rfl, fun _ h => (nomatch h)⟩, I.below⟩ | exact ⟨g, D, q, le.isEmpty, rfl, ⟨e0q hN2 f35 hQ (by omega), hbD⟩, I.below⟩
     refine zb I 47 (decide ((((a0c x).size : Nat) : Int) > 5)) (false) (f47) fun Al W I => ?_
     refine zq I (fun Al W I => have hzW := I.bel.size; (hA x (fun y hy => (hs7.1 y hy).1) (fun h => by rw [h] at f43; cases f43) (by have := oFa f47; rw [a0o] at this; omega) W).out) fun Al W I => ?_
     have hx5 : x.length ≤ 5 := by have := oFa f47; rw [a0o] at this; omega
     have hx6 := hx10 hx5
     rw [if_neg (fun h => h.elim (fun h => by rw [h] at f43; cases f43) (fun h => by omega))] at hP
     refine zcut I (some 2000054) (fun fr bx gs => ∃ (U3 : Nat → Value) (nn : Int), fr = (.v (.string (a0c l0)) :: .v undef :: sw U1 2 4 (.p 0 0 :: .v (.bool g) :: .v (.string (a0c D)) :: .v (.int .i64 pw) :: .v (U1 10) :: .v (.bool mi) :: .v (.string (a0c x)) :: .v (.int .i64 nn) :: sw U3 14 9 (.v (.bool p) :: sw U3 24 3 (.v (U1 27) :: sw U3 28 7 (.v (.bool false) :: .v (U3 36) :: .v (.bool true) :: sw U3 38 10 (.v (.bool false) :: sw U3 49 5 (.v (.bool mi) :: sw U3 55 13 [])))))) : List SV) ∧ bx = [⟨170, [.v (.string (a0c l7))], false⟩] ∧ gs = [] ∧ ((if mi then -((a0k x : Nat) : Int) else ((a0k x : Nat) : Int)) = nn)) ?_ ?_
     · intro J hJ Al W I
       rcases Bool.eq_false_or_eq_true mi with rfl | rfl
       · refine zi I 56 .i64 (0 - ((a0k x : Nat) : Int)) ((-((a0k x : Nat) : Int))) ((by rw [Int.zero_sub]; exact iwo)) fun Al W I => ?_
         exact a0n I J fun Al W U I => hJ _ _ _ _ _ ⟨U, -((a0k x : Nat) : Int), rfl, rfl, rfl, rfl⟩ (I.pick [])
       exact a0n I J fun Al W U I => hJ _ _ _ _ _ ⟨U, ((a0k x : Nat) : Int), rfl, rfl, rfl, rfl⟩ (I.pick [])
     rintro _ _ _ ⟨U3, nn, rfl, rfl, rfl, hnn⟩ Al W I
     rw [hnn] at hP
     have hnb : -100000 ≤ nn ∧ nn ≤ 100000 := by rw [← hnn]; split <;> omega
     refine zi I 59 .i64 (pw + nn) ((nn + pw)) ((by rw [Int.add_comm]; exact iwo)) fun Al W I => ?_
     exact a0n I J fun Al W U I => hJ _ _ _ _ _ ⟨U, nn + pw, l7, rfl, rfl, rfl, (by rw [hP]; congr 2; omega), hb7.2⟩ (I.pick [])
   exact a0n I J fun Al W U I => hJ _ _ _ _ _ ⟨U, pw, l5, rfl, rfl, rfl, (by rw [hP, if_neg Bool.false_ne_true]; congr 2; omega), hb5⟩ (I.pick [])
 rintro _ _ _ ⟨U2, q, le, rfl, rfl, rfl, hQ, hbe⟩ Al W I
 refine zd [] I fun Al W I => ?_
 refine zk [0, 1, 2, 3, 4, 5, 6, 8, 9, 10] I fun I => ?_
 refine zo 7 I fun I => ?_
 refine zbin I 67 _ (fun _ _ _ _ _ => (f0j hbe)) fun Al W I => ?_
 refine zk [11] I fun I => ?_
 refine zret I (v := fun Al => .tuple #[.bool g, .string (a0c D), .int .i64 q, .bool le.isEmpty]) fun Al W I => ?_
 first | exact ⟨false, [], 0, false, rfl, ⟨by rw [hN1, if_pos rfl, if_pos (List.isEmpty_iff.1 f27)]; rfl, fun _ h => (nomatch h)⟩, I.below⟩ | exact ⟨false, [], 0, false, rfl, ⟨by rw [hN2]; unfold numE; rw [if_pos (List.isEmpty_iff.1 f35)]; rfl, fun _ h => (nomatch h)⟩, I.below⟩ | exact ⟨false, [], 0, false, rfl, ⟨by rw [hN2]; unfold numE; rw [if_neg (fun h => by rw [h] at f35; cases f35), hP, if_pos (by first | exact .inl (List.isEmpty_iff.1 f43) | exact .inr (by have := oTr f47; rw [a0o] at this; omega))]; rfl, fun _ h => (nomatch h)⟩, I.below⟩ | exact ⟨g, D, q, le.isEmpty, rfl, ⟨e0q hN2 f35 hQ (by omega), hbD⟩, I.below⟩
end Go.Proofs.YtbamiajjampgnaaGreatDoor
namespace Go.Slip
open Go.RowKit
def ratL (l : List Nat) : Bool × Nat × Nat × Int := if errT l.length (numl l) = 0 then (match numl l with | some q => f0e q | none => (false, 0, 0, 0)) else (false, 0, 0, 0)
theorem z0i {l : List Nat} (h : 400 < l.length) : errT l.length (numl l) = 2 ∧ ratL l = (false, 0, 0, 0) := by
 have h1 : errT l.length (numl l) = 2 := by unfold errT; rw [if_pos h]
 exact ⟨h1, by unfold ratL; rw [h1]; rfl⟩
theorem z0j {l : List Nat} (h : ¬ 400 < l.length) (hn : numl l = none) : errT l.length (numl l) = 1 ∧ ratL l = (false, 0, 0, 0) := by
 have h1 : errT l.length (numl l) = 1 := by unfold errT; rw [if_neg h, hn]
 exact ⟨h1, by unfold ratL; rw [h1]; rfl⟩
theorem u0q {l : List Nat} (h : ¬ 400 < l.length) {q : Numl} (hn : numl l = some q) (hp : q.pow < -6000 ∨ 6000 < q.pow) : errT l.length (numl l) = 3 ∧ ratL l = (false, 0, 0, 0) := by
 have h1 : errT l.length (numl l) = 3 := by unfold errT; rw [if_neg h, hn]; exact if_pos hp
 exact ⟨h1, by unfold ratL; rw [h1]; rfl⟩
theorem z0k {l : List Nat} (h : ¬ 400 < l.length) {q : Numl} (hn : numl l = some q) (hp : ¬ (q.pow < -6000 ∨ 6000 < q.pow)) : errT l.length (numl l) = 0 ∧ ratL l = f0e q := by
 have h1 : errT l.length (numl l) = 0 := by unfold errT; rw [if_neg h, hn]; exact if_neg hp
 exact ⟨h1, by unfold ratL; rw [h1, hn]; rfl⟩
theorem b1k {l f r : List Nat} (h : o0s l = some (f, r)) : (∀ x ∈ f, isDg x = true) ∧ f.length ≤ l.length := by
 rw [i0h] at h
 have hl := i0u 46 l
 have hs := o0i (mayT 46 l).2
 split at h
 · split at h
   · cases h
   · injection h with h; injection h with h1 h2; subst h1
     exact ⟨fun x hx => (hs.1 x hx).1, by omega⟩
 · injection h with h; injection h with h1 h2; subst h1
   exact ⟨fun _ hx => (nomatch hx), Nat.zero_le _⟩
theorem o0j {l : List Nat} {q : Numl} (h : numl l = some q) : (∀ x ∈ q.ds, isDg x = true) ∧ q.ds.length ≤ 2 * l.length := by
 rw [x0g] at h
 have hl := i0u 45 l
 have hs := o0i (mayT 45 l).2
 generalize (mayT 45 l).2 = m at *
 cases hf : o0s (m.dropWhile isDg) with
 | none => rw [hf] at h; cases h
 | some fr =>
  obtain ⟨f, r⟩ := fr
  rw [hf] at h
  simp only at h
  have hF := b1k hf
  unfold numE at h
  split at h
  · cases h
  · split at h
    · cases h
    · split at h
      · injection h with h
        subst h
        exact ⟨fun x hx => (List.mem_append.1 hx).elim (fun k => (hs.1 x k).1) (hF.1 x), by rw [List.length_append]; omega⟩
      · cases h
theorem q0c {q : Numl} (h : a0k q.ds = 0) : f0e q = (false, 0, 1, 0) := by unfold f0e; rw [if_pos h]
theorem z0l {q : Numl} (h : a0k q.ds ≠ 0) (hp : 0 ≤ q.pow) : f0e q = (q.neg, a0k q.ds / 2 ^ tz (a0k q.ds) * 5 ^ q.pow.toNat, 1, tz (a0k q.ds) + q.pow) := by unfold f0e; rw [if_neg h, if_pos hp]
theorem z0m {q : Numl} (h : a0k q.ds ≠ 0) (hp : ¬ 0 ≤ q.pow) {n f : Nat} (hc : b0o (a0k q.ds / 2 ^ tz (a0k q.ds)) (-q.pow).toNat = (n, f)) : f0e q = (q.neg, n, 5 ^ f, tz (a0k q.ds) + q.pow) := by unfold f0e; rw [if_neg h, if_neg hp, hc]
theorem f1x {B : Nat} (hB : 10 ≤ B) {l : List Nat} (h : ∀ x ∈ l, isDg x = true) : (dig B (a0k l)).length ≤ l.length := by
 rw [a0f (by omega)]
 exact Nat.lt_of_lt_of_le (g0b l fun j hj => by rw [b0e hj]; exact (c0d.1 (h _ (List.getElem_mem hj))).2) (Nat.pow_le_pow_left hB _)
theorem u0r {l : List Nat} (h : ∀ x ∈ l, isDg x = true) : y0e (a0c l) := fun j hj => by
 have hb : Byt l := fun x hx => by have := c0d.1 (h x hx); omega
 rw [a0o] at hj
 rw [a0s hb, b0e hj]
 exact c0d.1 (h _ (List.getElem_mem hj))
theorem l0z {n P : Nat} (h : P = 0 ∨ n % 5 ≠ 0) : b0o n P = (n, P) := by
 cases P with
 | zero => rfl
 | succ P => rw [b0o, if_neg (h.resolve_left (by omega))]
theorem u0s {n P : Nat} (h0 : 0 < P) (h : n % 5 = 0) : b0o n P = b0o (n / 5) (P - 1) := by
 cases P with
 | zero => omega
 | succ P => rw [b0o, if_pos h]; rfl
end Go.Slip
namespace Go.Proofs.YtbamiajjampgnaaGreatDoor
open Go.RowKit Go.Slip
theorem n1u (p : Option Addr) (c m : Nat) (w : World) (hp : Rd w .u32 p (dig B32 m)) (hc : (dig B32 m).length ≤ c) (hl : (dig B32 m).length ≤ 1000000) (hT : TabW w) :
 Calls Tryz.prog 47 #[.slice p (dig B32 m).length c] w fun en w' => ∃ q d, en = .returned (.tuple #[.slice q (dig B32 (m / 2 ^ tz m)).length d, .int .i64 ((tz m : Nat) : Int)]) ∧ Own w' w.heap.size .u32 143 q d (dig B32 (m / 2 ^ tz m)) ∧ Below w.heap.size w w' := by
 have htz := z0a m hl
 have HZ := fun W h hT => hi0 ((k0a p _ c m W h rfl (by omega) hT).mono fun _ _ ⟨h1, h2⟩ => ⟨h1, h2 ▸ Below.refl _ _⟩ : Calls Tryz.prog 113 #[.slice p (dig B32 m).length c] W fun en W' => en = .returned (.int .i64 ((tz m : Nat) : Int)) ∧ Below W.heap.size W W')
 have HS := fun W h => hi0 (sshr p _ c m (tz m) _ _ W h rfl hc (by omega) (by omega) rfl rfl)
 generalize tz m = z at *
 have I := Inv.start w [rdF .u32 p (dig B32 m), tabF] ⟨hp, hT, True.intro⟩
 refine a0h [.v (.slice p (dig B32 m).length c)] I Tryz.func47 ?_
 refine zq I (fun Al W I => (HZ W I.fa.1 I.fa.2.1).out) fun Al W I => ?_
 refine zqo I (fun Al W I => (HS W I.fa.1).out) fun Al W p9 c9 I => ?_
 exact zret I fun Al W I => ⟨p9, c9, rfl, I.fa.1, I.below⟩
def m0k (w : World) (er : Int) (R : Bool × Nat × Nat × Int) (en : Ending) (w' : World) : Prop :=
 ∃ p c q d, en = .returned (.tuple #[.agg #[.bool R.1, .slice p (dig B32 R.2.1).length c, .slice q (dig B32 R.2.2.1).length d, .int .i64 R.2.2.2], .int .i64 er]) ∧ Own w' w.heap.size .u32 143 p c (dig B32 R.2.1) ∧ Own w' w.heap.size .u32 143 q d (dig B32 R.2.2.1) ∧ Below w.heap.size w w'
theorem a0p {w w' : World} {er k : Int} {R : Bool × Nat × Nat × Int} {en : Ending} (h : er = k ∧ R = (false, 0, 0, 0)) (he : en = .returned (.tuple #[.agg #[.bool false, .slice none 0 0, .slice none 0 0, .int .i64 0], .int .i64 k])) (hb : Below w.heap.size w w') : m0k w er R en w' := by
 obtain ⟨rfl, rfl⟩ := h
 have e : dig B32 0 = [] := a0d _
 refine ⟨none, 0, none, 0, ?_, ?_, ?_, hb⟩
 · rw [he]; simp only [e]; rfl
 · show Own _ _ _ _ _ _ (dig B32 0); rw [e]; exact Own.nil _ _ _ _
 · show Own _ _ _ _ _ _ (dig B32 0); rw [e]; exact Own.nil _ _ _ _
theorem c0s {w w' : World} {p : Option Addr} {c : Nat} {en : Ending} (he : en = .returned (.tuple #[.agg #[.bool false, .slice none 0 0, .slice p (dig B32 1).length c, .int .i64 0], .int .i64 0])) (h : Own w' w.heap.size .u32 143 p c (dig B32 1)) (hb : Below w.heap.size w w') : m0k w 0 (false, 0, 1, 0) en w' := by
 have e : dig B32 0 = [] := a0d _
 refine ⟨none, 0, p, c, ?_, ?_, h, hb⟩
 · rw [he]; simp only [e]; rfl
 · show Own _ _ _ _ _ _ (dig B32 0); rw [e]; exact Own.nil _ _ _ _
theorem o0k (t : ByteArray) (w : World) (hT : TabW w) : Calls Tryz.prog 11 #[.string t] w (m0k w (errT (a0b t).length (numl (a0b t))) (ratL (a0b t))) := by
 have hz : t.size = (a0b t).length := (a0z t).symm
 have HN := fun W h => hi0 (x0h t W h)
 have h1 := @z0i (a0b t)
 have h2 := @z0j (a0b t)
 have h3 := @u0q (a0b t)
 have h4 := @z0k (a0b t)
 have h5 := @o0j (a0b t)
 generalize errT (a0b t).length (numl (a0b t)) = er at *
 generalize ratL (a0b t) = R at *
 generalize numl (a0b t) = N at *
 generalize (a0b t).length = L at *
 have HTr := fun l hb W => hi0 (j1q l hb W)
 have HPa := fun s h1 h2 W => hi0 (e1o s W h1 h2)
 have HO := fun (k : Nat) hk W => hi0 (sof (k : Int) k rfl hk W)
 have HPw := fun p c K W base ho hb hK => hi0 (y0x base p c 5 K W ho hb (by omega) hK)
 have HMu := fun p q c d a b W hp hq hl => hi0 (r0v p q _ _ c d a b W hp hq rfl rfl hl)
 have HOd := fun p c m W hp hc hl hT => hi0 (n1u p c m W hp hc hl hT)
 have HDv := fun p q c d a W hp hq hl => hi0 (h0l p q _ _ c d a 5 W hp hq rfl rfl hl (Nat.le_trans ((a0f a0a 5 1).2 (by decide)) (by omega)) (by omega))
 have I := Inv.start w [tabF] ⟨hT, True.intro⟩
 refine a0h [.v (.string t)] I Tryz.func11 ?_
 rcases Bool.eq_false_or_eq_true (decide ((t.size : Int) > 400)) with f16 | f16
 · refine zb I 16 (decide ((t.size : Int) > 400)) (true) (f16) fun Al W I => ?_
   refine zret I (v := fun Al => .tuple #[.agg #[.bool false, .slice none 0 0, .slice none 0 0, .int .i64 0], .int .i64 2]) fun Al W I => ?_
   first | exact a0p (h1 (by have := oTr f16; omega)) rfl I.below | exact a0p (h2 (by have := oFa f16; omega) (by rw [hN.1, if_neg (by simpa using f26)])) rfl I.below | exact a0p (h3 (by have := oFa f16; omega) hN2 (by first | exact .inl (oTr f29) | exact .inr (oTr f32))) rfl I.below | (rw [hrk.1, hrk.2, r0 (hS0.1 (by have := beq_iff_eq.1 f40; omega))]; exact c0s rfl {o41} I.below) | (rw [hrk.1, hrk.2, r1 (fun h => by have := hS0.2 h; have := bnF f40; omega) (oTr f62)]; have e := oTr f62; rw [show pw.toNat = pw.natAbs by omega]; exact ⟨p65, c65, p56, c56, rfl, {o65}, {o56}, I.below⟩) | (rw [hrk.1, hrk.2, r2 (fun h => by have := hS0.2 h; have := bnF f40; omega) (oFa f62) n P (by rw [← hfin]; have := oFa f62; congr 1; omega)]; exact ⟨pn, cn, p87, c87, rfl, {xn}, {o87}, I.below⟩)
 refine zb I 16 (decide ((t.size : Int) > 400)) (false) (f16) fun Al W I => ?_
 refine zg I (fun Al W I => have hzW := I.bel.size; (HN W (by have := oFa f16; omega)).out) fun Al V Iv _ hB _ kz => ?_
 rintro _ W ⟨g, ds, pw, ok, rfl, hN, hb⟩
 refine ⟨_, rfl, kz _ _ hb fun I => ?_⟩
 rcases Bool.eq_false_or_eq_true (!ok) with f26 | f26
 · refine zb I 26 (!ok) (true) (f26) fun Al W I => ?_
   refine zret I (v := fun Al => .tuple #[.agg #[.bool false, .slice none 0 0, .slice none 0 0, .int .i64 0], .int .i64 1]) fun Al W I => ?_
   first | exact a0p (h1 (by have := oTr f16; omega)) rfl I.below | exact a0p (h2 (by have := oFa f16; omega) (by rw [hN.1, if_neg (by simpa using f26)])) rfl I.below | exact a0p (h3 (by have := oFa f16; omega) hN2 (by first | exact .inl (oTr f29) | exact .inr (oTr f32))) rfl I.below | (rw [hrk.1, hrk.2, r0 (hS0.1 (by have := beq_iff_eq.1 f40; omega))]; exact c0s rfl {o41} I.below) | (rw [hrk.1, hrk.2, r1 (fun h => by have := hS0.2 h; have := bnF f40; omega) (oTr f62)]; have e := oTr f62; rw [show pw.toNat = pw.natAbs by omega]; exact ⟨p65, c65, p56, c56, rfl, {o65}, {o56}, I.below⟩) | (rw [hrk.1, hrk.2, r2 (fun h => by have := hS0.2 h; have := bnF f40; omega) (oFa f62) n P (by rw [← hfin]; have := oFa f62; congr 1; omega)]; exact ⟨pn, cn, p87, c87, rfl, {xn}, {o87}, I.below⟩)
 refine zb I 26 (!ok) (false) (f26) fun Al W I => ?_
 rcases Bool.eq_false_or_eq_true (decide (pw < (-6000))) with f29 | f29
 · have hN2 : N = some ⟨g, ds, pw⟩ := by rw [hN.1, if_pos (by simpa using f26)]
   refine zb I 29 (decide (pw < (-6000))) (true) (f29) fun Al W I => ?_
   refine zret I (v := fun Al => .tuple #[.agg #[.bool false, .slice none 0 0, .slice none 0 0, .int .i64 0], .int .i64 3]) fun Al W I => ?_
   first | exact a0p (h1 (by have := oTr f16; omega)) rfl I.below | exact a0p (h2 (by have := oFa f16; omega) (by rw [hN.1, if_neg (by simpa using f26)])) rfl I.below | exact a0p (h3 (by have := oFa f16; omega) hN2 (by first | exact .inl (oTr f29) | exact .inr (oTr f32))) rfl I.below | (rw [hrk.1, hrk.2, r0 (hS0.1 (by have := beq_iff_eq.1 f40; omega))]; exact c0s rfl {o41} I.below) | (rw [hrk.1, hrk.2, r1 (fun h => by have := hS0.2 h; have := bnF f40; omega) (oTr f62)]; have e := oTr f62; rw [show pw.toNat = pw.natAbs by omega]; exact ⟨p65, c65, p56, c56, rfl, {o65}, {o56}, I.below⟩) | (rw [hrk.1, hrk.2, r2 (fun h => by have := hS0.2 h; have := bnF f40; omega) (oFa f62) n P (by rw [← hfin]; have := oFa f62; congr 1; omega)]; exact ⟨pn, cn, p87, c87, rfl, {xn}, {o87}, I.below⟩)
 have hN2 : N = some ⟨g, ds, pw⟩ := by rw [hN.1, if_pos (by simpa using f26)]
 refine zb I 29 (decide (pw < (-6000))) (false) (f29) fun Al W I => ?_
 rcases Bool.eq_false_or_eq_true (decide (pw > 6000)) with f32 | f32
 · refine zb I 32 (decide (pw > 6000)) (true) (f32) fun Al W I => ?_
   refine zret I (v := fun Al => .tuple #[.agg #[.bool false, .slice none 0 0, .slice none 0 0, .int .i64 0], .int .i64 3]) fun Al W I => ?_
   first | exact a0p (h1 (by have := oTr f16; omega)) rfl I.below | exact a0p (h2 (by have := oFa f16; omega) (by rw [hN.1, if_neg (by simpa using f26)])) rfl I.below | exact a0p (h3 (by have := oFa f16; omega) hN2 (by first | exact .inl (oTr f29) | exact .inr (oTr f32))) rfl I.below | (rw [hrk.1, hrk.2, r0 (hS0.1 (by have := beq_iff_eq.1 f40; omega))]; exact c0s rfl {o41} I.below) | (rw [hrk.1, hrk.2, r1 (fun h => by have := hS0.2 h; have := bnF f40; omega) (oTr f62)]; have e := oTr f62; rw [show pw.toNat = pw.natAbs by omega]; exact ⟨p65, c65, p56, c56, rfl, {o65}, {o56}, I.below⟩) | (rw [hrk.1, hrk.2, r2 (fun h => by have := hS0.2 h; have := bnF f40; omega) (oFa f62) n P (by rw [← hfin]; have := oFa f62; congr 1; omega)]; exact ⟨pn, cn, p87, c87, rfl, {xn}, {o87}, I.below⟩)
 refine zb I 32 (decide (pw > 6000)) (false) (f32) fun Al W I => ?_
 have hdg := (h5 hN2).1
 have hdl := (h5 hN2).2
 have hrk := h4 (by have := oFa f16; omega) hN2 (fun (h : pw < -6000 ∨ 6000 < pw) => by have := oFa f29; have := oFa f32; omega)
 have hpw : -6000 ≤ pw ∧ pw ≤ 6000 := by have := oFa f29; have := oFa f32; omega
 have tr := HTr ds hN.2
 have hzd : ∀ x ∈ ds.dropWhile (· == 48), isDg x = true := fun x hx => hdg x (f1t x hx)
 have hzl : (ds.dropWhile (· == 48)).length ≤ ds.length := (List.dropWhile_sublist _).length_le
 have hnm := b1j ds
 generalize ds.dropWhile (· == 48) = dz at *
 have pz := HPa (a0c dz) (by rw [a0o]; simp only at hdl; omega) (u0r hzd)
 have hSl : (dig B32 (a0k ds)).length ≤ 800 := by rw [← hnm]; exact Nat.le_trans (f1x (B := B32) (by decide) hzd) (by simp only at hdl; omega)
 rw [a0s (fun x hx => by have := c0d.1 (hzd x hx); omega), hnm] at pz
 have r0 := q0c (q := ⟨g, ds, pw⟩)
 have r1 := z0l (q := ⟨g, ds, pw⟩)
 have r2 := fun h hp n f => z0m (q := ⟨g, ds, pw⟩) h hp (n := n) (f := f)
 simp only at r0 r1 r2
 generalize a0k ds = S at *
 have hod := fun p c W hp hc hl hT => HOd p c S W hp hc hl hT
 have hol : (dig B32 (S / 2 ^ tz S)).length ≤ 800 := Nat.le_trans (a0m a0a (Nat.div_le_self _ _)) hSl
 have hzb := z0a S hSl
 have hS0 := a0e a0a S
 generalize S / 2 ^ tz S = o at *
 generalize tz S = z at *
 have h5l : ∀ k, k ≤ 6000 → (dig B32 (5 ^ k)).length ≤ 6001 := fun k hk => i0r (K := 6001) a0a (by decide) (by omega) (by omega)
 refine zq I (fun Al W I => (tr W).out) fun Al W I => ?_
 refine zg I (fun Al W I => (pz W).out) fun Al V Iv _ hB _ kz => ?_
 rintro _ W ⟨p37, c37, rfl, o37, hb⟩
 refine ⟨_, rfl, kz _ _ hb fun I => ?_⟩
 have I := I.own o37
 rcases Bool.eq_false_or_eq_true ((((dig B32 S).length : Nat) : Int) == 0) with f40 | f40
 · refine zb I 40 ((((dig B32 S).length : Nat) : Int) == 0) (true) (f40) fun Al W I => ?_
   refine zqo I (fun Al W I => have hzW := I.bel.size; (HO 1 (by omega) W).out) fun Al W p41 c41 I => ?_
   refine zret I (v := fun Al => .tuple #[.agg #[.bool false, .slice none 0 0, .slice p41 (dig B32 1).length c41, .int .i64 0], .int .i64 0]) fun Al W I => ?_
   first | exact a0p (h1 (by have := oTr f16; omega)) rfl I.below | exact a0p (h2 (by have := oFa f16; omega) (by rw [hN.1, if_neg (by simpa using f26)])) rfl I.below | exact a0p (h3 (by have := oFa f16; omega) hN2 (by first | exact .inl (oTr f29) | exact .inr (oTr f32))) rfl I.below | (rw [hrk.1, hrk.2, r0 (hS0.1 (by have := beq_iff_eq.1 f40; omega))]; exact c0s rfl I.fa.1 I.below) | (rw [hrk.1, hrk.2, r1 (fun h => by have := hS0.2 h; have := bnF f40; omega) (oTr f62)]; have e := oTr f62; rw [show pw.toNat = pw.natAbs by omega]; exact ⟨p65, c65, p56, c56, rfl, {o65}, {o56}, I.below⟩) | (rw [hrk.1, hrk.2, r2 (fun h => by have := hS0.2 h; have := bnF f40; omega) (oFa f62) n P (by rw [← hfin]; have := oFa f62; congr 1; omega)]; exact ⟨pn, cn, p87, c87, rfl, {xn}, {o87}, I.below⟩)
 refine zb I 40 ((((dig B32 S).length : Nat) : Int) == 0) (false) (f40) fun Al W I => ?_
 refine zg I (fun Al W I => have hzW := I.bel.size; (hod p37 c37 W I.fa.1.rd I.fa.1.le_cap (by omega) I.fa.2.1).out) fun Al V Iv _ hB _ kz => ?_
 rintro _ W ⟨p45, c45, rfl, o45, hb⟩
 refine ⟨_, rfl, kz _ _ hb fun I => ?_⟩
 have I := I.own o45
 refine zg I (fun Al W I => have hzW := I.bel.size; (HO 5 (by omega) W).out) fun Al V Iv _ hB _ kz => ?_
 rintro _ W ⟨p48, c48, rfl, o48, hb⟩
 refine ⟨_, rfl, kz _ _ hb fun I => ?_⟩
 have I := I.own o48
 refine zi I 51 .i64 (0 - pw) ((-pw)) ((by rw [Int.zero_sub]; exact iwo)) fun Al W I => ?_
 refine zm I 52 .i64 (if ((-pw) : Int) > pw then (-pw) else pw) ((pw.natAbs : Int)) ((by omega)) fun Al W I => ?_
 refine zg I (fun Al W I => have hzW := I.bel.size; (HPw p48 c48 pw.natAbs W _ I.fa.1 I.below.size (by omega)).out) fun Al V Iv _ hB _ kz => ?_
 rintro _ W ⟨p53, c53, rfl, o53, hb⟩
 refine ⟨_, rfl, kz _ _ hb fun I => ?_⟩
 have I := I.own o53
 refine zqo I (fun Al W I => have hzW := I.bel.size; (HO 1 (by omega) W).out) fun Al W p56 c56 I => ?_
 refine zi I 59 .i64 ((z : Int) + pw) (((z : Int) + pw)) ((by exact iwo)) fun Al W I => ?_
 rcases Bool.eq_false_or_eq_true (decide (pw ≥ 0)) with f62 | f62
 · refine zb I 62 (decide (pw ≥ 0)) (true) (f62) fun Al W I => ?_
   refine zqo I (fun Al W I => have hzW := I.bel.size; (HMu p45 p53 c45 c53 o (5 ^ pw.natAbs) W I.fa.2.2.2.1.rd I.fa.2.1.rd (by have := h5l pw.natAbs (by omega); omega)).out) fun Al W p65 c65 I => ?_
   refine zret I (v := fun Al => .tuple #[.agg #[.bool g, .slice p65 (dig B32 (o * 5 ^ pw.natAbs)).length c65, .slice p56 (dig B32 1).length c56, .int .i64 ((z : Int) + pw)], .int .i64 0]) fun Al W I => ?_
   first | exact a0p (h1 (by have := oTr f16; omega)) rfl I.below | exact a0p (h2 (by have := oFa f16; omega) (by rw [hN.1, if_neg (by simpa using f26)])) rfl I.below | exact a0p (h3 (by have := oFa f16; omega) hN2 (by first | exact .inl (oTr f29) | exact .inr (oTr f32))) rfl I.below | (rw [hrk.1, hrk.2, r0 (hS0.1 (by have := beq_iff_eq.1 f40; omega))]; exact c0s rfl {o41} I.below) | (rw [hrk.1, hrk.2, r1 (fun h => by have := hS0.2 h; have := bnF f40; omega) (oTr f62)]; have e := oTr f62; rw [show pw.toNat = pw.natAbs by omega]; exact ⟨p65, c65, p56, c56, rfl, I.fa.1, I.fa.2.1, I.below⟩) | (rw [hrk.1, hrk.2, r2 (fun h => by have := hS0.2 h; have := bnF f40; omega) (oFa f62) n P (by rw [← hfin]; have := oFa f62; congr 1; omega)]; exact ⟨pn, cn, p87, c87, rfl, {xn}, {o87}, I.below⟩)
 refine zb I 62 (decide (pw ≥ 0)) (false) (f62) fun Al W I => ?_
 refine n0e I (fun gk fr bx gs => ∃ (U900 : Nat → Value) (n : Nat) (P : Nat) (x : Int) (pn : Option Addr) (cn : Nat), fr = (.v (.string t) :: .v undef :: .p 0 0 :: .v (.int .i64 0) :: .v (.bool g) :: .v (.string (a0c ds)) :: .v (.int .i64 x) :: .v (.bool ok) :: .v (.slice p45 (dig B32 o).length c45) :: .v (.int .i64 (z : Int)) :: .v (.slice p53 (dig B32 (5 ^ pw.natAbs)).length c53) :: .p 1 0 :: sw U900 12 4 (.v (.bool false) :: sw U900 17 9 (.v (.bool false) :: sw U900 27 6 (.v (.bool false) :: sw U900 34 6 (.v (.bool false) :: sw U900 41 21 (.v (.bool false) :: sw U900 63 27 []))))) : List SV) ∧ bx = [⟨25, [.v (.bool false), .v (.slice none 0 0), .v (.slice none 0 0), .v (.int .i64 0)], false⟩, ⟨25, [.v (.bool g), .v (.slice pn (dig B32 n).length cn), .v (.slice p56 (dig B32 1).length c56), .v (.int .i64 ((z : Int) + pw))], false⟩] ∧ gs = [ownF w.heap.size .u32 143 pn cn (dig B32 n), ownF w.heap.size .u32 143 p56 c56 (dig B32 1), tabF] ∧ (b0o n P = b0o o pw.natAbs) ∧ (P ≤ 6000) ∧ (x = -(P : Int)) ∧ ((dig B32 n).length ≤ 800) ∧ (gk = P)) pw.natAbs (fun Al W U I => ⟨_, ⟨U, o, pw.natAbs, pw, p45, c45, rfl, rfl, rfl, rfl, (by omega), (by have := oFa f62; omega), hol, rfl⟩, I.pick [3, 0, 5]⟩) ?_
 rintro J0 gk0 _ _ _ ⟨U900, n, P, x, pn, cn, rfl, rfl, rfl, hcf, hPl, hx, hnl, hgk⟩ hJ0 Al W I
 rcases Bool.eq_false_or_eq_true (decide (x < 0)) with f69 | f69
 · refine zb I 69 (decide (x < 0)) (true) (f69) fun Al W I => ?_
   refine zd [] I fun Al W I => ?_
   refine zk [0, 1] I fun I => ?_
   refine zo 2 I fun I => ?_
   refine zqo I (fun Al W I => have hzW := I.bel.size; (HO 5 (by omega) W).out) fun Al W p73 c73 I => ?_
   refine zo 3 I fun I => ?_
   refine zg I (fun Al W I => have hzW := I.bel.size; (HDv pn p73 cn c73 n W I.fa.2.1.rd I.fa.1.rd (by omega)).out) fun Al V Iv _ hB _ kz => ?_
   rintro _ W ⟨p74, c74, q74, d74, rfl, a74, b74, hb, -⟩
   refine ⟨_, rfl, kz _ _ hb fun I => ?_⟩
   have I := I.own a74
   have I := I.own b74
   refine zk [4, 5, 6, 7, 8] I fun I => ?_
   rcases Bool.eq_false_or_eq_true (decide ((((dig B32 (n % 5)).length : Nat) : Int) > 0)) with f79 | f79
   · refine zb I 79 (decide ((((dig B32 (n % 5)).length : Nat) : Int) > 0)) (true) (f79) fun Al W I => ?_
     have hfin := l0z (n := n) (P := P) (by first | exact .inl (by have := oFa f69; omega) | exact .inr (by have := oTr f79; have := a0e a0a (n % 5); omega))
     rw [hcf] at hfin
     refine zqo I (fun Al W I => have hzW := I.bel.size; (HO 5 (by omega) W).out) fun Al W p84 c84 I => ?_
     refine zi I 86 .i64 (0 - x) ((P : Int)) ((by rw [hx, show (0 : Int) - -(P : Int) = (P : Int) by omega]; exact iwo)) fun Al W I => ?_
     refine zqo I (fun Al W I => have hzW := I.bel.size; (HPw p84 c84 P W _ I.fa.1 I.below.size (by omega)).out) fun Al W p87 c87 I => ?_
     refine zret I (v := fun Al => .tuple #[.agg #[.bool g, .slice pn (dig B32 n).length cn, .slice p87 (dig B32 (5 ^ P)).length c87, .int .i64 ((z : Int) + pw)], .int .i64 0]) fun Al W I => ?_
     first | exact a0p (h1 (by have := oTr f16; omega)) rfl I.below | exact a0p (h2 (by have := oFa f16; omega) (by rw [hN.1, if_neg (by simpa using f26)])) rfl I.below | exact a0p (h3 (by have := oFa f16; omega) hN2 (by first | exact .inl (oTr f29) | exact .inr (oTr f32))) rfl I.below | (rw [hrk.1, hrk.2, r0 (hS0.1 (by have := beq_iff_eq.1 f40; omega))]; exact c0s rfl {o41} I.below) | (rw [hrk.1, hrk.2, r1 (fun h => by have := hS0.2 h; have := bnF f40; omega) (oTr f62)]; have e := oTr f62; rw [show pw.toNat = pw.natAbs by omega]; exact ⟨p65, c65, p56, c56, rfl, {o65}, I.fa.2.2.2.2.2.2.1, I.below⟩) | (rw [hrk.1, hrk.2, r2 (fun h => by have := hS0.2 h; have := bnF f40; omega) (oFa f62) n P (by rw [← hfin]; have := oFa f62; congr 1; omega)]; exact ⟨pn, cn, p87, c87, rfl, I.fa.2.2.2.2.2.1, I.fa.1, I.below⟩)
   refine zb I 79 (decide ((((dig B32 (n % 5)).length : Nat) : Int) > 0)) (false) (f79) fun Al W I => ?_
   refine zi I 82 .i64 (x + 1) ((x + 1)) ((by exact iwo)) fun Al W I => ?_
   exact a0n I J0 fun Al W U I => hJ0 (P - 1) _ _ _ _ _ ((by have := oTr f69; omega)) ⟨U, n / 5, P - 1, x + 1, p74, c74, rfl, rfl, rfl, (by rw [← hcf]; exact (u0s (by have := oTr f69; omega) (by have := oFa f79; have := a0e a0a (n % 5); omega)).symm), (by omega), (by have := oTr f69; omega), (Nat.le_trans (a0m a0a (Nat.div_le_self _ _)) hnl), rfl⟩ (I.pick [1, 4, 5])
 refine zb I 69 (decide (x < 0)) (false) (f69) fun Al W I => ?_
 have hfin := l0z (n := n) (P := P) (by first | exact .inl (by have := oFa f69; omega) | exact .inr (by have := oTr f79; have := a0e a0a (n % 5); omega))
 rw [hcf] at hfin
 refine zqo I (fun Al W I => have hzW := I.bel.size; (HO 5 (by omega) W).out) fun Al W p84 c84 I => ?_
 refine zi I 86 .i64 (0 - x) ((P : Int)) ((by rw [hx, show (0 : Int) - -(P : Int) = (P : Int) by omega]; exact iwo)) fun Al W I => ?_
 refine zqo I (fun Al W I => have hzW := I.bel.size; (HPw p84 c84 P W _ I.fa.1 I.below.size (by omega)).out) fun Al W p87 c87 I => ?_
 refine zret I (v := fun Al => .tuple #[.agg #[.bool g, .slice pn (dig B32 n).length cn, .slice p87 (dig B32 (5 ^ P)).length c87, .int .i64 ((z : Int) + pw)], .int .i64 0]) fun Al W I => ?_
 first | exact a0p (h1 (by have := oTr f16; omega)) rfl I.below | exact a0p (h2 (by have := oFa f16; omega) (by rw [hN.1, if_neg (by simpa using f26)])) rfl I.below | exact a0p (h3 (by have := oFa f16; omega) hN2 (by first | exact .inl (oTr f29) | exact .inr (oTr f32))) rfl I.below | (rw [hrk.1, hrk.2, r0 (hS0.1 (by have := beq_iff_eq.1 f40; omega))]; exact c0s rfl {o41} I.below) | (rw [hrk.1, hrk.2, r1 (fun h => by have := hS0.2 h; have := bnF f40; omega) (oTr f62)]; have e := oTr f62; rw [show pw.toNat = pw.natAbs by omega]; exact ⟨p65, c65, p56, c56, rfl, {o65}, I.fa.2.2.2.1, I.below⟩) | (rw [hrk.1, hrk.2, r2 (fun h => by have := hS0.2 h; have := bnF f40; omega) (oFa f62) n P (by rw [← hfin]; have := oFa f62; congr 1; omega)]; exact ⟨pn, cn, p87, c87, rfl, I.fa.2.2.1, I.fa.1, I.below⟩)
end Go.Proofs.YtbamiajjampgnaaGreatDoor
namespace Go.Slip
open Go.RowKit
def i0i (c : Nat) (g : Bool) : List Nat := if c = 2 then [] else (if g then [45] else []) ++ (if c = 1 then [48] else if c = 3 then [105, 110, 102] else if c = 4 then [110, 111, 110, 101] else [114, 101, 115, 101, 114, 118, 101, 100])
def o0x (c : Nat) : List Nat := if c = 1 then [48] else if c = 3 then [105, 110, 102] else if c = 4 then [110, 111, 110, 101] else if c = 5 then [114, 101, 115, 101, 114, 118, 101, 100] else []
theorem k0v (c : Nat) (g : Bool) : Byt (i0i c g) := by
 unfold i0i
 intro x hx
 split at hx
 · exact (nomatch hx)
 · rcases List.mem_append.1 hx with h | h
   · split at h
     · simp at h; omega
     · exact (nomatch h)
   · repeat' split at h
     all_goals (simp at h; omega)
theorem c0o {c : Nat} {g : Bool} : i0i c g = [] ↔ c = 2 := by
 unfold i0i
 by_cases h : c = 2
 · rw [if_pos h]; exact iff_of_true rfl h
 · rw [if_neg h]
   refine iff_of_false (fun k => ?_) h
   have k2 := (List.append_eq_nil_iff.1 k).2
   repeat' split at k2
   all_goals cases k2
theorem s0r (n : Nat) : Byt (b0j n) := fun x hx => by have := g0u n x hx; omega
theorem f1y (p : Int) : Byt (f0v p) := by
 unfold f0v
 split
 · intro x hx
   rcases List.mem_cons.1 hx with rfl | hx
   · omega
   · exact s0r _ x hx
 · exact s0r _
end Go.Slip
namespace Go.Proofs.YtbamiajjampgnaaGreatDoor
open Go.RowKit Go.Slip
theorem n1v (u : Int) (w : World) (hu : -100000 ≤ u ∧ u ≤ 100000) :
 Calls Tryz.prog 182 #[.int .i64 u] w fun en w' => ∃ p c q d, en = .returned (.tuple #[.slice p (dig B32 (10 ^ u.toNat)).length c, .slice q (dig B32 (10 ^ (-u).toNat)).length d]) ∧ Own w' w.heap.size .u32 143 p c (dig B32 (10 ^ u.toNat)) ∧ Own w' w.heap.size .u32 143 q d (dig B32 (10 ^ (-u).toNat)) ∧ Below w.heap.size w w' := by
 have HO := fun (k : Nat) hk W => hi0 (sof (k : Int) k rfl hk W)
 have HPw := fun p c K W base ho hb hK => hi0 (y0x base p c 10 K W ho hb (by omega) hK)
 have e1 : u < 0 → u.toNat = 0 ∧ (-u).toNat = u.natAbs := fun h => by omega
 have e2 : ¬ u < 0 → u.toNat = u.natAbs ∧ (-u).toNat = 0 := fun h => by omega
 have I := Inv.start w [] True.intro
 refine a0h [.v (.int .i64 u)] I Tryz.func182 ?_
 refine zqo I (fun Al W I => have hzW := I.bel.size; (HO 10 (by omega) W).out) fun Al W p5 c5 I => ?_
 refine zi I 8 .i64 (0 - u) ((-u)) ((by rw [Int.zero_sub]; exact iwo)) fun Al W I => ?_
 refine zm I 9 .i64 (if ((-u) : Int) > u then (-u) else u) ((u.natAbs : Int)) ((by omega)) fun Al W I => ?_
 refine zqo I (fun Al W I => have hzW := I.bel.size; (HPw p5 c5 u.natAbs W _ I.fa.1 I.below.size (by omega)).out) fun Al W p10 c10 I => ?_
 rcases Bool.eq_false_or_eq_true (decide (u < 0)) with f12 | f12
 · refine zb I 12 (decide (u < 0)) (true) (f12) fun Al W I => ?_
   refine zqo I (fun Al W I => have hzW := I.bel.size; (HO 1 (by omega) W).out) fun Al W p13 c13 I => ?_
   refine zret I (v := fun Al => .tuple #[.slice p13 (dig B32 1).length c13, .slice p10 (dig B32 (10 ^ u.natAbs)).length c10]) fun Al W I => ?_
   first | (obtain ⟨h1, h2⟩ := e1 (oTr f12); rw [h1, h2, Nat.pow_zero]; exact ⟨p13, c13, p10, c10, rfl, I.fa.1, I.fa.2.1, I.below⟩) | (obtain ⟨h1, h2⟩ := e2 (oFa f12); rw [h1, h2, Nat.pow_zero]; exact ⟨p10, c10, p16, c16, rfl, I.fa.2.1, {o16}, I.below⟩)
 refine zb I 12 (decide (u < 0)) (false) (f12) fun Al W I => ?_
 refine zqo I (fun Al W I => have hzW := I.bel.size; (HO 1 (by omega) W).out) fun Al W p16 c16 I => ?_
 refine zret I (v := fun Al => .tuple #[.slice p10 (dig B32 (10 ^ u.natAbs)).length c10, .slice p16 (dig B32 1).length c16]) fun Al W I => ?_
 first | (obtain ⟨h1, h2⟩ := e1 (oTr f12); rw [h1, h2, Nat.pow_zero]; exact ⟨p13, c13, p10, c10, rfl, {o13}, I.fa.2.1, I.below⟩) | (obtain ⟨h1, h2⟩ := e2 (oFa f12); rw [h1, h2, Nat.pow_zero]; exact ⟨p10, c10, p16, c16, rfl, I.fa.2.1, I.fa.1, I.below⟩)
def n1w (w : World) (a b c : Nat) (en : Ending) (w' : World) : Prop :=
 ∃ p x q y r z, en = .returned (.tuple #[.slice p (dig B32 a).length x, .slice q (dig B32 b).length y, .slice r (dig B32 c).length z]) ∧ Own w' w.heap.size .u32 143 p x (dig B32 a) ∧ Own w' w.heap.size .u32 143 q y (dig B32 b) ∧ Own w' w.heap.size .u32 143 r z (dig B32 c) ∧ Below w.heap.size w w'
theorem x0i (g : Bool) (num : Nat) (E u : Int) (p q : Option Addr) (a b : Nat) (w : World) (hp : Rd w .u32 p (dig B32 num)) (hq : Rd w .u32 q (dig B32 1)) (hl : (dig B32 num).length ≤ 1000) (hE : -100000 ≤ E ∧ E ≤ 100000) (hu : -100000 ≤ u ∧ u ≤ 100000) :
 Calls Tryz.prog 141 #[.agg #[.bool g, .slice p (dig B32 num).length a, .slice q (dig B32 1).length b, .int .i64 E], .int .i64 u] w (n1w w (q10 (numP num E) (denP 1 E) u) (r10 (numP num E) (denP 1 E) u) (d10 (denP 1 E) u)) := by
 have hN : num * 10 ^ u.toNat * 2 ^ E.toNat = n10 (numP num E) u := by unfold n10 numP; grind
 have hD : 1 * 10 ^ (-u).toNat * 2 ^ (-E).toNat = d10 (denP 1 E) u := by unfold d10 denP; grind
 have hd0 : 0 < d10 (denP 1 E) u := r0m (e0n (by omega) E) u
 have eq : q10 (numP num E) (denP 1 E) u = n10 (numP num E) u / d10 (denP 1 E) u := rfl
 have er : r10 (numP num E) (denP 1 E) u = n10 (numP num E) u % d10 (denP 1 E) u := rfl
 rw [eq, er, ← hN, ← hD]
 rw [← hD] at hd0
 clear eq er hN hD
 have l1 : (dig B32 1).length ≤ 1 := (a0f a0a 1 1).2 (by decide)
 have l10 : ∀ k : Nat, k ≤ 100000 → (dig B32 (10 ^ k)).length ≤ 100001 := fun k hk => i0r (K := 100001) a0a (by decide) (by omega) (by omega)
 have l2 : ∀ k : Nat, k ≤ 100000 → (dig B32 (2 ^ k)).length ≤ 100001 := fun k hk => i0r (K := 100001) a0a (by decide) (by omega) (by omega)
 have k1 := l10 u.toNat (by omega)
 have k2 := l10 (-u).toNat (by omega)
 have k3 := l2 E.toNat (by omega)
 have k4 := l2 (-E).toNat (by omega)
 have m1 := b0q a0a num (10 ^ u.toNat)
 have m2 := b0q a0a 1 (10 ^ (-u).toNat)
 have m3 := b0q a0a (num * 10 ^ u.toNat) (2 ^ E.toNat)
 have m4 := b0q a0a (1 * 10 ^ (-u).toNat) (2 ^ (-E).toNat)
 have HTn := fun W => hi0 (n1v u W hu)
 have e1 : E.toNat = 0 ∨ (E : Int) = (E.toNat : Nat) := by omega
 have e2 : 0 ≤ E → (-E).toNat = 0 := by omega
 have e3 : ¬ 0 ≤ E → E.toNat = 0 := by omega
 generalize 10 ^ u.toNat = U at *
 generalize 10 ^ (-u).toNat = V2 at *
 have HM1 := fun W r c h h2 => hi0 (r0v p r _ _ a c num U W h h2 rfl rfl (by omega))
 have HM2 := fun W r c h h2 => hi0 (r0v q r _ _ b c 1 V2 W h h2 rfl rfl (by omega))
 generalize num * U = X at *
 generalize 1 * V2 = Y at *
 have HS := fun W r c x (n : Nat) (M : Int) h (h1 : (dig B32 x).length ≤ 102001) (h2 : n ≤ 100000) h3 => hi0 (sshl r _ c x n (x * 2 ^ n) M W h rfl (by omega) (by omega) h3 rfl)
 have HDv := fun W r s c d x y h h2 (h3 : (dig B32 x).length ≤ 300000) (h4 : (dig B32 y).length ≤ 300000) h5 => hi0 (h0l r s _ _ c d x y W h h2 rfl rfl (by omega) (by omega) h5)
 have I := Inv.start w [rdF .u32 p (dig B32 num), rdF .u32 q (dig B32 1)] ⟨hp, hq, True.intro⟩
 refine a0h [.v (.agg #[.bool g, .slice p (dig B32 num).length a, .slice q (dig B32 1).length b, .int .i64 E]), .v (.int .i64 u)] I Tryz.func141 ?_
 refine zg I (fun Al W I => (HTn W).out) fun Al V Iv _ hB _ kz => ?_
 rintro _ W ⟨p15, c15, q15, d15, rfl, o15, r15, hb⟩
 refine ⟨_, rfl, kz _ _ hb fun I => ?_⟩
 have I := I.own o15
 have I := I.own r15
 refine zd [] I fun Al W I => ?_
 refine zk [0, 1, 2, 4, 5, 6] I fun I => ?_
 refine zo 3 I fun I => ?_
 refine zqo I (fun Al W I => (HM1 W p15 c15 I.fa.2.2.1 I.fa.2.1.rd).out) fun Al W p21 c21 I => ?_
 refine zo 7 I fun I => ?_
 refine zqo I (fun Al W I => (HM2 W q15 d15 I.fa.2.2.2.2.1 I.fa.2.1.rd).out) fun Al W p25 c25 I => ?_
 refine zk [8, 9] I fun I => ?_
 rcases Bool.eq_false_or_eq_true (decide (E ≥ 0)) with f28 | f28
 · refine zb I 28 (decide (E ≥ 0)) (true) (f28) fun Al W I => ?_
   refine zqo I (fun Al W I => have hzW := I.bel.size; (HS W p21 c21 X E.toNat E I.fa.2.1.rd (by omega) (by omega) (by have := oTr f28; omega)).out) fun Al W p32 c32 I => ?_
   refine zg I (fun Al W I => have hzW := I.bel.size; (HDv W p32 p25 c32 c25 (X * 2 ^ E.toNat) Y I.fa.1.rd I.fa.2.1.rd (by omega) (by omega) (by have h := e2 (oTr f28); rw [h, Nat.pow_zero, Nat.mul_one] at hd0; exact hd0)).out) fun Al V Iv _ hB _ kz => ?_
   rintro _ W ⟨p41, c41, q41, d41, rfl, o41, r41, hb, -⟩
   refine ⟨_, rfl, kz _ _ hb fun I => ?_⟩
   have I := I.own o41
   have I := I.own r41
   refine zret I (v := fun Al => .tuple #[.slice p41 (dig B32 (X * 2 ^ E.toNat / Y)).length c41, .slice q41 (dig B32 (X * 2 ^ E.toNat % Y)).length d41, .slice p25 (dig B32 Y).length c25]) fun Al W I => ?_
   first | (have h := e2 (oTr f28); rw [h, Nat.pow_zero, Nat.mul_one]; exact ⟨p41, c41, q41, d41, p25, c25, rfl, I.fa.2.1, I.fa.1, I.fa.2.2.2.1, I.below⟩) | (have h := e3 (oFa f28); rw [h, Nat.pow_zero, Nat.mul_one]; exact ⟨p41, c41, q41, d41, p37, c37, rfl, I.fa.2.1, I.fa.1, {o37}, I.below⟩)
 refine zb I 28 (decide (E ≥ 0)) (false) (f28) fun Al W I => ?_
 refine zi I 36 .i64 (0 - E) ((-E)) ((by rw [Int.zero_sub]; exact iwo)) fun Al W I => ?_
 refine zqo I (fun Al W I => have hzW := I.bel.size; (HS W p25 c25 Y (-E).toNat (-E) I.fa.1.rd (by omega) (by omega) (by have := oFa f28; omega)).out) fun Al W p37 c37 I => ?_
 refine zg I (fun Al W I => have hzW := I.bel.size; (HDv W p21 p37 c21 c37 X (Y * 2 ^ (-E).toNat) I.fa.2.2.1.rd I.fa.1.rd (by omega) (by omega) hd0).out) fun Al V Iv _ hB _ kz => ?_
 rintro _ W ⟨p41, c41, q41, d41, rfl, o41, r41, hb, -⟩
 refine ⟨_, rfl, kz _ _ hb fun I => ?_⟩
 have I := I.own o41
 have I := I.own r41
 refine zret I (v := fun Al => .tuple #[.slice p41 (dig B32 (X / (Y * 2 ^ (-E).toNat))).length c41, .slice q41 (dig B32 (X % (Y * 2 ^ (-E).toNat))).length d41, .slice p37 (dig B32 (Y * 2 ^ (-E).toNat)).length c37]) fun Al W I => ?_
 first | (have h := e2 (oTr f28); rw [h, Nat.pow_zero, Nat.mul_one]; exact ⟨p41, c41, q41, d41, p25, c25, rfl, I.fa.2.1, I.fa.1, I.fa.2.2.2.1, I.below⟩) | (have h := e3 (oFa f28); rw [h, Nat.pow_zero, Nat.mul_one]; exact ⟨p41, c41, q41, d41, p37, c37, rfl, I.fa.2.1, I.fa.1, I.fa.2.2.1, I.below⟩)
theorem q0d (n : Int) (v : Vl) (p : Option Addr) (c base : Nat) (w : World) (hp : Own w base .u32 143 p c (dig B32 v.d)) (hpw : -100000 ≤ v.pow ∧ v.pow ≤ 100000) :
 Calls Tryz.prog 65 #[.int .i64 n, .agg #[.int .i64 (v.cls : Int), .bool v.neg, .slice p (dig B32 v.d).length c, .int .i64 v.pow]] w fun en w' => ∃ q d, en = .returned (.agg #[.bool v.neg, .slice p (dig B32 v.d).length c, .slice q (dig B32 1).length d, .int .i64 (wid (fmt n).g * v.pow)]) ∧ Own w' w.heap.size .u32 143 q d (dig B32 1) ∧ Below w.heap.size w w' := by
 have HG := fun W => hi0 (z0d n W)
 have HO := fun (k : Nat) hk W => hi0 (sof (k : Int) k rfl hk W)
 have wp := b0n (fmt n).g
 have hw : wid (fmt n).g = if (fmt n).g.rad = 16 then 4 else 1 := rfl
 have hm := y0z (wd := wid (fmt n).g) (k := v.pow) (B := 100000) wp.2 hpw
 generalize wid (fmt n).g = wd at *
 generalize (fmt n).g = gg at *
 generalize d0l n = er at *
 obtain ⟨bb, hbb⟩ : ∃ bb, (gg.rad == 16) = bb := ⟨_, rfl⟩
 have I := Inv.start w [ownF base .u32 143 p c (dig B32 v.d)] ⟨hp, True.intro⟩
 refine a0h [.v (.int .i64 n), .v (.agg #[.int .i64 (v.cls : Int), .bool v.neg, .slice p (dig B32 v.d).length c, .int .i64 v.pow])] I Tryz.func65 ?_
 refine zq I (fun Al W I => (HG W).out) fun Al W I => ?_
 refine zb I 15 (gg.rad == 16) (bb) (hbb) fun Al W I => ?_
 refine zcut I (some 2000015) (fun fr bx gs => ∃ (U1 : Nat → Value) (k : Int), fr = (.v (.int .i64 n) :: .v (.agg #[.int .i64 (v.cls : Int), .bool v.neg, .slice p (dig B32 v.d).length c, .int .i64 v.pow]) :: .v undef :: .p 0 0 :: .p 1 0 :: .p 2 0 :: .v (U1 6) :: .v (.int .i64 k) :: sw U1 8 7 (.v (.bool bb) :: sw U1 16 10 []) : List SV) ∧ bx = [⟨66, [.v (.int .i64 (v.cls : Int)), .v (.bool v.neg), .v (.slice p (dig B32 v.d).length c), .v (.int .i64 v.pow)], false⟩, ⟨25, [.v (.bool false), .v (.slice none 0 0), .v (.slice none 0 0), .v (.int .i64 0)], false⟩, ⟨40, [.v (.int .i64 gg.rad), .v (.int .i64 gg.digs), .v (.int .i64 gg.lo), .v (.int .i64 gg.hi), .v (.bool gg.grad)], false⟩] ∧ gs = [ownF base .u32 143 p c (dig B32 v.d)] ∧ ((wd : Int) = k)) ?_ ?_
 · intro J hJ Al W I
   rcases Bool.eq_false_or_eq_true bb with rfl | rfl
   · exact a0n I J fun Al W U I => hJ _ _ _ _ _ ⟨U, 4, rfl, rfl, rfl, (by rw [hw, if_pos (beq_iff_eq.1 hbb)]; rfl)⟩ (I.pick [0])
   exact a0n I J fun Al W U I => hJ _ _ _ _ _ ⟨U, 1, rfl, rfl, rfl, (by rw [hw, if_neg (bnF hbb)]; rfl)⟩ (I.pick [0])
 rintro _ _ _ ⟨U1, k, rfl, rfl, rfl, hk⟩ Al W I
 refine zd [1] I fun Al W I => ?_
 refine zk [0, 1, 2, 3, 5, 6, 7] I fun I => ?_
 refine zki 8 I .i64 (k * v.pow) (((wd : Int) * v.pow)) ((by rw [← hk]; exact iwo)) fun I => ?_
 refine zo 4 I fun I => ?_
 refine zqo I (fun Al W I => have hzW := I.bel.size; (HO 1 (by omega) W).out) fun Al W p20 c20 I => ?_
 refine zk [9] I fun I => ?_
 refine zo 10 I fun I => ?_
 refine zn I fun Al W I => ?_
 exact zret I fun Al W I => ⟨p20, c20, rfl, I.fa.1, I.below⟩
theorem k0w (g : Bool) (s : List Nat) (p : Int) (w : World) (hs : Byt s) (h0 : s ≠ []) (hl : s.length ≤ 100) (hp : -100000 < p ∧ p < 100000) (hT : PowW w) :
 Calls Tryz.prog 68 #[.bool g, .string (a0c s), .int .i64 p] w fun en w' => en = .returned (.string (a0c (numT g s p))) ∧ Below w.heap.size w w' := by
 have hz := a0o s
 have h1 := j0u hs 0 1
 have h2 : (a0c s).extract 1 (a0c s).size = a0c (s.drop 1) := by rw [j0u hs, hz, List.take_length]
 have hI := fun W h => hi0 (j1p p (by omega) W h)
 have hil : (f0v p).length ≤ 6 := by
  have h : (b0j p.natAbs).length ≤ 5 := (b0l _ 5 (by omega)).2 (by omega)
  unfold f0v
  split
  · rw [List.length_cons, show (-p).toNat = p.natAbs by omega]; omega
  · rw [show p.toNat = p.natAbs by omega]; omega
 have hl0 : 0 < s.length := List.length_pos_iff.2 h0
 have ha : (s.take 1).length = 1 := by rw [List.length_take]; omega
 have hb : (s.drop 1).length = s.length - 1 := by rw [List.length_drop]
 have eN : numT g s p = (if g then [45] else []) ++ (s.take 1 ++ ((if 1 < s.length then 46 :: s.drop 1 else []) ++ 101 :: f0v p)) := rfl
 rw [List.drop_zero] at h1
 generalize s.take 1 = a at *
 generalize s.drop 1 = b at *
 generalize f0v p = ip at *
 generalize a0c s = S at *
 obtain ⟨q, hq⟩ : ∃ q, decide ((S.size : Int) > 1) = q := ⟨_, rfl⟩
 have I := Inv.start w [powF] ⟨hT, True.intro⟩
 refine a0h [.v (.bool g), .v (.string S), .v (.int .i64 p)] I Tryz.func68 ?_
 refine zx I 9 (fun _ => .string (a0c a)) (fun Al W I => (by rw [← h1]; exact i0g uSt (.inl ⟨rfl, rfl⟩) (.inr rfl) (Nat.zero_le _) (by omega))) fun Al W I => ?_
 refine zb I 12 (decide ((S.size : Int) > 1)) (q) (hq) fun Al W I => ?_
 refine zcut I (some 2000012) (fun fr bx gs => ∃ (U1 : Nat → Value) (Y : LN), fr = (.v (.bool g) :: .v (.string S) :: .v (.int .i64 p) :: su 3 (.v (Go.Value.string (ByteArray.mk #[])) :: .v (.string (a0c Y)) :: sw U1 8 4 (.v (.bool q) :: sw U1 13 5 (.v undef :: sw U1 19 7 []))) : List SV) ∧ bx = [] ∧ gs = [powF] ∧ (Y = a ++ (if 1 < s.length then 46 :: b else [])) ∧ (Y.length ≤ 200)) ?_ ?_
 · intro J hJ Al W I
   rcases Bool.eq_false_or_eq_true q with rfl | rfl
   · refine zx I 15 (fun _ => .string (a0c b)) (fun Al W I => (by rw [← h2]; exact i0g uSt (.inr rfl) (.inl ⟨rfl, rfl⟩) (by omega) (Nat.le_refl _))) fun Al W I => ?_
     refine zbin I 16 _ (fun _ _ _ _ _ => (f0i [46] b (by simp; omega))) fun Al W I => ?_
     refine zbin I 17 _ (fun _ _ _ _ _ => (f0i a (46 :: b) (by simp; omega))) fun Al W I => ?_
     exact a0n I J fun Al W U I => hJ _ _ _ _ _ ⟨U, (a ++ 46 :: b), rfl, rfl, rfl, (by rw [if_pos (by have := oTr hq; omega)]), (by rw [List.length_append, List.length_cons]; omega)⟩ (I.pick [0])
   exact a0n I J fun Al W U I => hJ _ _ _ _ _ ⟨U, a, rfl, rfl, rfl, (by rw [if_neg (by have := oFa hq; omega), List.append_nil]), (by omega)⟩ (I.pick [0])
 rintro _ _ _ ⟨U1, Y, rfl, rfl, rfl, hY, hYl⟩ Al W I
 refine zcut I (some 2000018) (fun fr bx gs => ∃ (U2 : Nat → Value) (X : LN), fr = (.v (.bool g) :: .v (.string S) :: .v (.int .i64 p) :: su 3 (.v (Go.Value.string (ByteArray.mk #[])) :: .v (.string (a0c X)) :: sw U2 8 4 (.v (.bool q) :: sw U2 13 5 (.v (.bool g) :: sw U2 19 7 []))) : List SV) ∧ bx = [] ∧ gs = [powF] ∧ (X ++ 101 :: ip = numT g s p) ∧ (X.length ≤ 300)) ?_ ?_
 · intro J hJ Al W I
   rcases Bool.eq_false_or_eq_true g with rfl | rfl
   · refine zbin I 20 _ (fun _ _ _ _ _ => (f0i [45] Y (by simp; omega))) fun Al W I => ?_
     exact a0n I J fun Al W U I => hJ _ _ _ _ _ ⟨U, (45 :: Y), rfl, rfl, rfl, (by rw [eN, if_pos rfl, hY]; simp), (by rw [List.length_cons]; omega)⟩ (I.pick [0])
   exact a0n I J fun Al W U I => hJ _ _ _ _ _ ⟨U, Y, rfl, rfl, rfl, (by rw [eN, if_neg Bool.false_ne_true, hY]; simp), (by omega)⟩ (I.pick [0])
 rintro _ _ _ ⟨U2, X, rfl, rfl, rfl, hX, hXl⟩ Al W I
 refine zbin I 22 _ (fun _ _ _ _ _ => (f0i X [101] (by simp; omega))) fun Al W I => ?_
 refine zq I (fun Al W I => (hI W I.fa.1).out) fun Al W I => ?_
 refine zbin I 25 _ (fun _ _ _ _ _ => (f0i (X ++ [101]) ip (by simp; omega))) fun Al W I => ?_
 exact zret I (v := fun Al => .string (a0c (X ++ [101] ++ ip))) fun Al W I => ⟨by rw [← hX]; simp, I.below⟩
theorem j1r (a b : Vl) (p q : Option Addr) (c d b1 b2 : Nat) (w : World) (hp : Own w b1 .u32 143 p c (dig B32 a.d)) (hq : Own w b2 .u32 143 q d (dig B32 b.d)) (h1 : (dig B32 a.d).length ≤ 100000) (h2 : (dig B32 b.d).length ≤ 100000) :
 Calls Tryz.prog 69 #[.agg #[.int .i64 (a.cls : Int), .bool a.neg, .slice p (dig B32 a.d).length c, .int .i64 a.pow], .agg #[.int .i64 (b.cls : Int), .bool b.neg, .slice q (dig B32 b.d).length d, .int .i64 b.pow]] w fun en w' => en = .returned (.bool (decide (a.cls = b.cls ∧ a.neg = b.neg ∧ a.pow = b.pow ∧ a.d = b.d))) ∧ Below w.heap.size w w' := by
 have HC := fun W hp hq => hi0 (f0d p q _ _ c d a.d b.d W hp hq rfl rfl (by omega) (by omega))
 have hc : cmpN a.d b.d = 0 ↔ a.d = b.d := ⟨u0i, fun h => by rw [h, v0d]⟩
 obtain ⟨ac, an, ad, ap⟩ := a
 obtain ⟨bc, bn, bd, bp⟩ := b
 simp only at HC hc hp hq h1 h2 ⊢
 generalize cmpN ad bd = k at *
 have I := Inv.start w [ownF b1 .u32 143 p c (dig B32 ad), ownF b2 .u32 143 q d (dig B32 bd)] ⟨hp, hq, True.intro⟩
 refine a0h [.v (.agg #[.int .i64 (ac : Int), .bool an, .slice p (dig B32 ad).length c, .int .i64 ap]), .v (.agg #[.int .i64 (bc : Int), .bool bn, .slice q (dig B32 bd).length d, .int .i64 bp])] I Tryz.func69 ?_
 refine zcut I (some 3000001) (fun fr bx gs => ∃ (U1 : Nat → Value) (r : Bool), fr = (.v (.agg #[.int .i64 (ac : Int), .bool an, .slice p (dig B32 ad).length c, .int .i64 ap]) :: .v (.agg #[.int .i64 (bc : Int), .bool bn, .slice q (dig B32 bd).length d, .int .i64 bp]) :: .p 0 0 :: .p 1 0 :: .v (.bool r) :: sw U1 5 27 [] : List SV) ∧ bx = [⟨66, [.v (.int .i64 (ac : Int)), .v (.bool an), .v (.slice p (dig B32 ad).length c), .v (.int .i64 ap)], false⟩, ⟨66, [.v (.int .i64 (bc : Int)), .v (.bool bn), .v (.slice q (dig B32 bd).length d), .v (.int .i64 bp)], false⟩] ∧ gs = [ownF b1 .u32 143 p c (dig B32 ad), ownF b2 .u32 143 q d (dig B32 bd)] ∧ (r = decide (ac = bc ∧ an = bn ∧ ap = bp ∧ ad = bd))) ?_ ?_
 · intro J hJ Al W I
   rcases Bool.eq_false_or_eq_true ((ac : Int) == (bc : Int)) with f9 | f9
   · refine zb I 9 ((ac : Int) == (bc : Int)) (true) (f9) fun Al W I => ?_
     rcases Bool.eq_false_or_eq_true (an == bn) with f15 | f15
     · refine zb I 15 (an == bn) (true) (f15) fun Al W I => ?_
       rcases Bool.eq_false_or_eq_true (ap == bp) with f22 | f22
       · refine zb I 22 (ap == bp) (true) (f22) fun Al W I => ?_
         refine zq I (fun Al W I => (HC W I.fa.1.rd I.fa.2.1.rd).out) fun Al W I => ?_
         rcases Bool.eq_false_or_eq_true (k == 0) with f30 | f30
         · refine zb I 30 (k == 0) (true) (f30) fun Al W I => ?_
           exact a0n I J fun Al W U I => hJ _ _ _ _ _ ⟨U, true, rfl, rfl, rfl, (by first | exact (dFa (fun h => by have := bnF f9; have := h.1; omega)).symm | exact (dFa (fun h => bnF f15 h.2.1)).symm | exact (dFa (fun h => bnF f22 h.2.2.1)).symm | exact (dFa (fun h => bnF f30 (hc.2 h.2.2.2))).symm | exact (decide_eq_true ⟨by have := beq_iff_eq.1 f9; omega, beq_iff_eq.1 f15, beq_iff_eq.1 f22, hc.1 (beq_iff_eq.1 f30)⟩).symm)⟩ (I.pick [0, 1])
         refine zb I 30 (k == 0) (false) (f30) fun Al W I => ?_
         exact a0n I J fun Al W U I => hJ _ _ _ _ _ ⟨U, false, rfl, rfl, rfl, (by first | exact (dFa (fun h => by have := bnF f9; have := h.1; omega)).symm | exact (dFa (fun h => bnF f15 h.2.1)).symm | exact (dFa (fun h => bnF f22 h.2.2.1)).symm | exact (dFa (fun h => bnF f30 (hc.2 h.2.2.2))).symm | exact (decide_eq_true ⟨by have := beq_iff_eq.1 f9; omega, beq_iff_eq.1 f15, beq_iff_eq.1 f22, hc.1 (beq_iff_eq.1 f30)⟩).symm)⟩ (I.pick [0, 1])
       refine zb I 22 (ap == bp) (false) (f22) fun Al W I => ?_
       exact a0n I J fun Al W U I => hJ _ _ _ _ _ ⟨U, false, rfl, rfl, rfl, (by first | exact (dFa (fun h => by have := bnF f9; have := h.1; omega)).symm | exact (dFa (fun h => bnF f15 h.2.1)).symm | exact (dFa (fun h => bnF f22 h.2.2.1)).symm | exact (dFa (fun h => bnF f30 (hc.2 h.2.2.2))).symm | exact (decide_eq_true ⟨by have := beq_iff_eq.1 f9; omega, beq_iff_eq.1 f15, beq_iff_eq.1 f22, hc.1 (beq_iff_eq.1 f30)⟩).symm)⟩ (I.pick [0, 1])
     refine zb I 15 (an == bn) (false) (f15) fun Al W I => ?_
     exact a0n I J fun Al W U I => hJ _ _ _ _ _ ⟨U, false, rfl, rfl, rfl, (by first | exact (dFa (fun h => by have := bnF f9; have := h.1; omega)).symm | exact (dFa (fun h => bnF f15 h.2.1)).symm | exact (dFa (fun h => bnF f22 h.2.2.1)).symm | exact (dFa (fun h => bnF f30 (hc.2 h.2.2.2))).symm | exact (decide_eq_true ⟨by have := beq_iff_eq.1 f9; omega, beq_iff_eq.1 f15, beq_iff_eq.1 f22, hc.1 (beq_iff_eq.1 f30)⟩).symm)⟩ (I.pick [0, 1])
   refine zb I 9 ((ac : Int) == (bc : Int)) (false) (f9) fun Al W I => ?_
   exact a0n I J fun Al W U I => hJ _ _ _ _ _ ⟨U, false, rfl, rfl, rfl, (by first | exact (dFa (fun h => by have := bnF f9; have := h.1; omega)).symm | exact (dFa (fun h => bnF f15 h.2.1)).symm | exact (dFa (fun h => bnF f22 h.2.2.1)).symm | exact (dFa (fun h => bnF f30 (hc.2 h.2.2.2))).symm | exact (decide_eq_true ⟨by have := beq_iff_eq.1 f9; omega, beq_iff_eq.1 f15, beq_iff_eq.1 f22, hc.1 (beq_iff_eq.1 f30)⟩).symm)⟩ (I.pick [0, 1])
 rintro _ _ _ ⟨U1, r, rfl, rfl, rfl, hr⟩ Al W I
 exact zret I (v := fun Al => .bool r) fun Al W I => ⟨by rw [hr], I.below⟩
theorem q0e : Tryz.prog.underlying 207 = some (.map 3 9) := by kernel_rfl
theorem f1z (c : Nat) : (∃ i, Instr.findNow (.int .i64) (.int .i64 (c : Int)) [⟨.int .i64 1, .string ⟨#[48]⟩, 0⟩, ⟨.int .i64 3, .string ⟨#[105, 110, 102]⟩, 1⟩, ⟨.int .i64 4, .string ⟨#[110, 111, 110, 101]⟩, 2⟩, ⟨.int .i64 5, .string ⟨#[114, 101, 115, 101, 114, 118, 101, 100]⟩, 3⟩] 0 = some (some (i, .string (a0c (o0x c))))) ∨ (o0x c = [] ∧ Instr.findNow (.int .i64) (.int .i64 (c : Int)) [⟨.int .i64 1, .string ⟨#[48]⟩, 0⟩, ⟨.int .i64 3, .string ⟨#[105, 110, 102]⟩, 1⟩, ⟨.int .i64 4, .string ⟨#[110, 111, 110, 101]⟩, 2⟩, ⟨.int .i64 5, .string ⟨#[114, 101, 115, 101, 114, 118, 101, 100]⟩, 3⟩] 0 = some none) := by
 by_cases h1 : c = 1
 · subst h1; exact .inl ⟨0, rfl⟩
 by_cases h3 : c = 3
 · subst h3; exact .inl ⟨1, rfl⟩
 by_cases h4 : c = 4
 · subst h4; exact .inl ⟨2, rfl⟩
 by_cases h5 : c = 5
 · subst h5; exact .inl ⟨3, rfl⟩
 refine .inr ⟨by unfold o0x; rw [if_neg h1, if_neg h3, if_neg h4, if_neg h5], ?_⟩
 have e1 : ((c : Int) == 1) = false := bFn (by omega)
 have e3 : ((c : Int) == 3) = false := bFn (by omega)
 have e4 : ((c : Int) == 4) = false := bFn (by omega)
 have e5 : ((c : Int) == 5) = false := bFn (by omega)
 simp only [Instr.findNow, Instr.sameNow, e1, e3, e4, e5, if_true]
theorem g1a {W : World} {b c : Nat} (hb : W.heap[b]? = some (.map #[⟨.int .i64 1, .string ⟨#[48]⟩, 0⟩, ⟨.int .i64 3, .string ⟨#[105, 110, 102]⟩, 1⟩, ⟨.int .i64 4, .string ⟨#[110, 111, 110, 101]⟩, 2⟩, ⟨.int .i64 5, .string ⟨#[114, 101, 115, 101, 114, 118, 101, 100]⟩, 3⟩] 4)) : (VO.lk 207 (.map (some b)) (.int .i64 (c : Int)) false).sem.run Tryz.prog W = .ok (.string (a0c (o0x c))) W := by
 rcases f1z c with h | ⟨h1, h2⟩
 · exact q1h q0e Tryz.underlying3 hb _ h
 · rw [h1]
   exact i0e q0e Tryz.underlying3 hb _ (by kernel_rfl) h2
theorem z0n (v : Vl) (p : Option Addr) (c base : Nat) (w : World) (hp : Own w base .u32 143 p c (dig B32 v.d)) (hc : 1 ≤ v.cls ∧ v.cls ≤ 5) (hT : TabW w) :
 Calls Tryz.prog 63 #[.agg #[.int .i64 (v.cls : Int), .bool v.neg, .slice p (dig B32 v.d).length c, .int .i64 v.pow]] w fun en w' => en = .returned (.string (a0c (i0i v.cls v.neg))) ∧ Below w.heap.size w w' := by
 have HF := fun W b h => hi0 (@g1a W b v.cls h)
 have hw : i0i v.cls v.neg = if v.cls = 2 then [] else (if v.neg then [45] else []) ++ o0x v.cls := by
  unfold i0i o0x
  by_cases h2 : v.cls = 2
  · rw [if_pos h2, if_pos h2]
  · rw [if_neg h2, if_neg h2]
    congr 1
    by_cases h1 : v.cls = 1
    · rw [if_pos h1, if_pos h1]
    · by_cases h3 : v.cls = 3
      · rw [if_neg h1, if_neg h1, if_pos h3, if_pos h3]
      · by_cases h4 : v.cls = 4
        · rw [if_neg h1, if_neg h1, if_neg h3, if_neg h3, if_pos h4, if_pos h4]
        · rw [if_neg h1, if_neg h1, if_neg h3, if_neg h3, if_neg h4, if_neg h4, if_pos (by omega)]
 have h2 : v.cls = 2 → o0x v.cls = [] := fun h => by rw [h]; rfl
 have hl : (o0x v.cls).length ≤ 8 := by
  unfold o0x
  repeat' split
  all_goals decide
 generalize o0x v.cls = S at *
 generalize i0i v.cls v.neg = R at *
 have I := Inv.start w [ownF base .u32 143 p c (dig B32 v.d), tabF] ⟨hp, hT, True.intro⟩
 refine a0h [.v (.agg #[.int .i64 (v.cls : Int), .bool v.neg, .slice p (dig B32 v.d).length c, .int .i64 v.pow])] I Tryz.func63 ?_
 refine zmkm I 207 fun Al W m4_b m4_ge I => ?_
 refine zins I q0e Tryz.underlying3 1 (Go.Value.string (ByteArray.mk #[48])) m4_ge (fun Al W I => ⟨s0f I.fa.1 I.fa.2.1, fun e => by have h2 := hT.2; have e : 0 = m4_b := e; have h3 := m4_ge; omega, True.intro⟩) fun Al W I => ?_
 refine zins I q0e Tryz.underlying3 3 (Go.Value.string (ByteArray.mk #[105, 110, 102])) m4_ge (fun Al W I => ⟨s0f I.fa.1 I.fa.2.1, fun e => by have h2 := hT.2; have e : 0 = m4_b := e; have h3 := m4_ge; omega, True.intro⟩) fun Al W I => ?_
 refine zins I q0e Tryz.underlying3 4 (Go.Value.string (ByteArray.mk #[110, 111, 110, 101])) m4_ge (fun Al W I => ⟨s0f I.fa.1 I.fa.2.1, fun e => by have h2 := hT.2; have e : 0 = m4_b := e; have h3 := m4_ge; omega, True.intro⟩) fun Al W I => ?_
 refine zins I q0e Tryz.underlying3 5 (Go.Value.string (ByteArray.mk #[114, 101, 115, 101, 114, 118, 101, 100])) m4_ge (fun Al W I => ⟨s0f I.fa.1 I.fa.2.1, fun e => by have h2 := hT.2; have e : 0 = m4_b := e; have h3 := m4_ge; omega, True.intro⟩) fun Al W I => ?_
 refine zx I 8 (fun _ => .string (a0c S)) (fun Al W I => (HF _ _ I.fa.1).out) fun Al W I => ?_
 rcases Bool.eq_false_or_eq_true (v.neg) with f11 | f11
 · refine zb I 11 (v.neg) (true) (f11) fun Al W I => ?_
   rcases Bool.eq_false_or_eq_true ((v.cls : Int) != 2) with f14 | f14
   · refine zb I 14 ((v.cls : Int) != 2) (true) (f14) fun Al W I => ?_
     refine zbin I 17 _ (fun _ _ _ _ _ => (f0i [45] S (by simp; omega))) fun Al W I => ?_
     refine zret I (v := fun Al => .string (a0c (45 :: S))) fun Al W I => ?_
     first | (rw [hw, if_neg (fun h => by have := bne_iff_ne.1 f14; omega), f11]; exact ⟨rfl, I.below⟩) | (have h := h2 (by have : (v.cls : Int) = 2 := (by simpa using f14); omega); rw [hw, if_pos (by have : (v.cls : Int) = 2 := (by simpa using f14); omega), h]; exact ⟨rfl, I.below⟩) | (rw [hw, f11]; by_cases h : v.cls = 2; (rw [if_pos h, h2 h]; exact ⟨rfl, I.below⟩); rw [if_neg h]; exact ⟨rfl, I.below⟩)
   refine zb I 14 ((v.cls : Int) != 2) (false) (f14) fun Al W I => ?_
   refine zret I (v := fun Al => .string (a0c S)) fun Al W I => ?_
   first | (rw [hw, if_neg (fun h => by have := bne_iff_ne.1 f14; omega), f11]; exact ⟨rfl, I.below⟩) | (have h := h2 (by have : (v.cls : Int) = 2 := (by simpa using f14); omega); rw [hw, if_pos (by have : (v.cls : Int) = 2 := (by simpa using f14); omega), h]; exact ⟨rfl, I.below⟩) | (rw [hw, f11]; by_cases h : v.cls = 2; (rw [if_pos h, h2 h]; exact ⟨rfl, I.below⟩); rw [if_neg h]; exact ⟨rfl, I.below⟩)
 refine zb I 11 (v.neg) (false) (f11) fun Al W I => ?_
 refine zret I (v := fun Al => .string (a0c S)) fun Al W I => ?_
 first | (rw [hw, if_neg (fun h => by have := bne_iff_ne.1 f14; omega), f11]; exact ⟨rfl, I.below⟩) | (have h := h2 (by have : (v.cls : Int) = 2 := (by simpa using f14); omega); rw [hw, if_pos (by have : (v.cls : Int) = 2 := (by simpa using f14); omega), h]; exact ⟨rfl, I.below⟩) | (rw [hw, f11]; by_cases h : v.cls = 2; (rw [if_pos h, h2 h]; exact ⟨rfl, I.below⟩); rw [if_neg h]; exact ⟨rfl, I.below⟩)
end Go.Proofs.YtbamiajjampgnaaGreatDoor
