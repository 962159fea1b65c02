/- codec: Encode. -/
import Derived.Deep.LoopGhost
import Derived.Deep.RegionHeld3
import Derived.Lib.Strings
import Derived.Shelf.Strings.Trim
import Derived.Shelf.Strconv.Atoi
import Derived.Shelf.LaysM
import Derived.Shelf.Strconv.Itoa3
import Derived.Test.YtpgomglbaacmdaaGreatDoorProg
import Derived.LaidSub
import Derived.Lib.LaidTab
import Derived.Test.YtpgomglbaacmdaaGreatDoorTSa1
import Derived.Test.YtpgomglbaacmdaaGreatDoorTSa2
import Derived.Test.YtpgomglbaacmdaaGreatDoorTSa3
import Derived.Test.YtpgomglbaacmdaaGreatDoorTSa4
import Derived.Test.YtpgomglbaacmdaaGreatDoorTSa5
import Derived.Test.YtpgomglbaacmdaaGreatDoorTSa6
set_option maxHeartbeats 8000000
set_option maxRecDepth 100000
namespace Go.Proofs.YtpgomglbaacmdaaGreatDoor
open Go.RowKit Go.Slip
def numD (f : Fm) (a : Din) : Dv := bare ⟨a.g, val B32 a.xs, wid f.g * a.e⟩
def c0k (f : Fm) (cls : Int) (a : Din) : Int :=
 if cls < 1 ∨ 5 < cls then 6
 else if b0g a.xs ≠ 0 then b0g a.xs
 else if ((cls = 3 ∨ cls = 4) ∧ f.inf = false) ∨ (cls = 5 ∧ f.res = false) then 5
 else if cls = 2 then
  if a.e < -20000 ∨ 20000 < a.e then 3
  else if a.xs.length = 0 ∨ a0p (numD f a) f.g = false then 4 else 0
 else if 0 < a.xs.length ∨ a.e ≠ 0 ∨ (a.g = true ∧ (4 ≤ cls ∨ f.res = true)) then 4 else 0
def r0u (f : Fm) (cls : Int) (a : Din) : ByteArray := a0d (f.strP (f.encP cls.toNat a.g (numD f a)))
def w0n (w : World) (er : Int) (s : ByteArray) (en : Ending) (w' : World) : Prop :=
 en = .returned (.tuple #[.string (if er = 0 then s else a0d []), .int .i64 er]) ∧ Below w.heap.size w w'
theorem c0r {w w' : World} {er r : Int} {s : ByteArray} {en : Ending} (h : er = r) (hr : r ≠ 0) (he : en = .returned (.tuple #[.string ⟨#[]⟩, .int .i64 r])) (hb : Below w.heap.size w w') : w0n w er s en w' := by
 subst h
 exact ⟨by rw [he, if_neg hr]; rfl, hb⟩
theorem g0g {w w' : World} {er : Int} {s t : ByteArray} {en : Ending} (h : er = 0) (hs : s = t) (he : en = .returned (.tuple #[.string t, .int .i64 0])) (hb : Below w.heap.size w w') : w0n w er s en w' := by
 subst h hs
 exact ⟨by rw [he, if_pos rfl], hb⟩
theorem q1a {f : Fm} {w : World} {a : Din} (ha : InD w a) (h : b0g a.xs = 0) (he : -20000 ≤ a.e ∧ a.e ≤ 20000) : (dig B32 (numD f a).m).length ≤ 1200 ∧ -100000 ≤ (numD f a).e ∧ (numD f a).e ≤ 150000 := by
 obtain ⟨h1, h2⟩ := e0y ha.lt h
 have hl : (dig B32 (val B32 a.xs)).length ≤ 1200 := by rw [← h1]; exact h2
 have k1 := a1j a0a (⟨a.g, val B32 a.xs, wid f.g * a.e⟩ : Dv)
 have wp := b0f f.g
 have hmu := j0d (wd := wid f.g) (k := a.e) (B := 20000) wp.2 he
 refine ⟨Nat.le_trans k1 hl, ?_⟩
 unfold numD
 by_cases h0 : val B32 a.xs = 0
 · rw [h0, v0e]; simp
 · have ht := f0u (m := val B32 a.xs) (by omega)
   have hb := c0o (val B32 a.xs)
   unfold bare
   rw [if_neg h0]
   simp only
   omega
theorem l1n (f : Fm) (g : Bool) (E : Int) (e : Nat) (hE : E = e) (w : World) (G : d0h f) (he : e < 2 ^ f.E) :
 Calls Tryz.prog 143 #[(fV f), .agg #[.bool g, .int .i64 E, .slice none 0 0]] w fun en w' => en = .returned (.string (a0d (f.str g e 0))) ∧ Below w.heap.size w w' := by
 have := b1e f g E e 0 hE none 0 w G (by rw [a0c]; exact Rd.nil _ _ _) he (Nat.pow_pos (by omega))
 rw [a0c] at this
 exact this
theorem h1o (n : Int) (cls : Int) (a : Din) (w : World) (hn : IsFm n) (ha : InD w a) (hT : TabW w) :
 Calls Tryz.prog 113 #[.int .i64 n, .agg #[.int .i64 cls, .bool a.g, .slice a.p a.xs.length a.c, .int .i64 a.e]] w (w0n w (c0k (fmt n) cls a) (r0u (fmt n) cls a)) := by
 have G := b0j hn
 have HF := fun W => hi0 (h0k n hn W)
 generalize fmt n = f at *
 have HR : ∀ (W : World), b0g a.xs = 0 → Rd W .u32 a.p a.xs → -20000 ≤ a.e ∧ a.e ≤ 20000 → TabW W → Hid (Calls Tryz.prog 141 #[(fV f), .agg #[.int .i64 cls, .bool a.g, .slice a.p a.xs.length a.c, .int .i64 a.e]] W (p0e W W.heap.size (numD f a))) := by
  intro W h1 h2 h3 h4
  obtain ⟨k1, k2⟩ := e0y ha.lt h1
  have hc := ha.cap
  have := p1y f a.g (val B32 a.xs) a.e cls a.p a.c W (by rw [← k1]; exact h2) (by rw [← k1]; exact hc) (by rw [← k1]; omega) ⟨by omega, by omega⟩ h4
  rw [← k1] at this
  exact hi0 this
 have hB : Bare (numD f a) := l0g _
 have hbd := fun h h2 => q1a (f := f) ha h h2
 have hkp := t0e hB (b0o G.g)
 have hxl : 0 < a.xs.length ↔ a.xs.length ≠ 0 := by omega
 have hm0 : b0g a.xs = 0 → a.xs.length ≠ 0 → (numD f a).m ≠ 0 := fun h1 h2 h3 => by
  obtain ⟨k1, _⟩ := e0y ha.lt h1
  have h4 : val B32 a.xs ≠ 0 := fun h => h2 (by rw [k1]; exact (a0f a0a _).2 h)
  unfold numD bare at h3
  rw [if_neg h4] at h3
  simp only at h3
  have := (b0t (val B32 a.xs) (by omega)).2
  rw [h3] at this
  simp at this
 have hige := fun h => a1o (a := numD f a) G.g hB h
 have z2 := G.e2
 have z3 := G.f2
 have z4 := G.f1
 have hsh := s0z (E := f.E) (by omega)
 have h0T : 0 < 2 ^ f.E := Nat.pow_pos (by omega)
 have h0T2 : 2 ^ f.E ≤ 2 ^ 15 := Nat.pow_le_pow_right (by omega) (by omega)
 have HSH := hi0 hsh
 have hlen := ha.len
 have hhid : f.inf = true → (f.hid = true ↔ f.ext = false) := fun h => by
  have h1 : f.fam = 1 := by unfold Fm.inf at h; simpa using h
  unfold Fm.hid
  rw [h1]
  cases f.ext <;> simp
 have rd := ha.rd
 unfold r0u
 obtain ⟨d, hD⟩ : ∃ d, numD f a = d := ⟨_, rfl⟩
 rw [hD] at HR hB hbd hkp hm0 hige ⊢
 have e1 : f.encP 1 a.g d = ⟨a.g, 0, 0⟩ := rfl
 have e2 : f.encP 2 a.g d = f.numP d := rfl
 have e3 : f.encP 3 a.g d = ⟨a.g, 2 ^ f.E - 1, if f.ext then 2 ^ 63 else 0⟩ := rfl
 have e4 : f.encP 4 a.g d = ⟨a.g, 2 ^ f.E - 1, if f.ext then 2 ^ 63 + 2 ^ 62 else 2 ^ (f.F - 1)⟩ := rfl
 have e5 : f.encP 5 a.g d = ⟨true, 0, 0⟩ := rfl
 have hF1 : 2 ^ (f.F - 1) < 2 ^ f.F := Nat.pow_lt_pow_right (by omega) (by omega)
 have hF0 : 0 < 2 ^ f.F := Nat.pow_pos (by omega)
 have hx64 : f.ext = true → 2 ^ f.F = 2 ^ 64 := fun h => by rw [(G.ext h).2.1]
 have hext : f.inf = true → f.hid = false → f.ext = true := fun h1 h2 => by
  cases hx : f.ext with
  | true => rfl
  | false => have := (hhid h1).2 hx; rw [h2] at this; cases this
 have hJ := fun (W : World) (g : Bool) (E : Int) (e x : Nat) (hE : E = e) (p : OA) (c : Nat) h h1 h2 => hi0 (b1e f g E e x hE p c W G h h1 h2)
 have hJ0 := fun (W : World) (g : Bool) (E : Int) (e : Nat) (hE : E = e) h1 => hi0 (l1n f g E e hE W G h1)
 have h63 : (dig B32 (2 ^ 63)).length ≤ 2 := b0b (n := 64) (by omega) (by omega)
 have h62 : (dig B32 (2 ^ 62)).length ≤ 2 := b0b (n := 64) (by omega) (by omega)
 generalize 2 ^ f.E = P at *
 clear hsh ha
 let aA : Box := ⟨87, [.v (.int .i64 (f.size : Int)), .v (.int .i64 (f.E : Int)), .v (.int .i64 (f.F : Int)), .v (.int .i64 f.g.rad), .v (.int .i64 f.g.digs), .v (.int .i64 f.g.lo), .v (.int .i64 f.g.hi), .v (.bool f.g.grad), .v (.bool f.hid), .v (.bool f.inf), .v (.bool f.res), .v (.func (.func (ordF f)) #[] #[])], false⟩
 let aB : Box := ⟨39, [.v (.int .i64 cls), .v (.bool a.g), .v (.slice a.p a.xs.length a.c), .v (.int .i64 a.e)], false⟩
 let aC : SV := .v (.agg #[.int .i64 cls, .bool a.g, .slice a.p a.xs.length a.c, .int .i64 a.e])
 have I := Inv.start w [rdF .u32 a.p a.xs, tabF] ⟨rd, hT, True.intro⟩
 refine a0g [.v (.int .i64 n), .v (.agg #[.int .i64 cls, .bool a.g, .slice a.p a.xs.length a.c, .int .i64 a.e])] I Tryz.func113 ?_
 refine zq I (fun Al W I => (HF W).out) fun Al W I => ?_
 rcases bTF (decide (cls < 1)) with f21 | f21
 · refine zb I 21 (decide (cls < 1)) (true) (f21) fun Al W I => ?_
   have hE : c0k f cls a = 6 := by unfold c0k; rw [if_pos (by (have := oTr f21; omega))]
   have hN : (6 : Int) ≠ 0 := by decide
   exact zret I fun Al W I => c0r hE hN rfl I.below
 refine zb I 21 (decide (cls < 1)) (false) (f21) fun Al W I => ?_
 rcases bTF (decide (cls > 5)) with f25 | f25
 · refine zb I 25 (decide (cls > 5)) (true) (f25) fun Al W I => ?_
   have hE : c0k f cls a = 6 := by unfold c0k; rw [if_pos (by (have := oTr f25; omega))]
   have hN : (6 : Int) ≠ 0 := by decide
   exact zret I fun Al W I => c0r hE hN rfl I.below
 refine zb I 25 (decide (cls > 5)) (false) (f25) fun Al W I => ?_
 have c1 : ¬ (cls < 1 ∨ 5 < cls) := by have := oFa f21; have := oFa f25; omega
 refine zq I (fun Al W I => i0d a.p _ a.c a.xs W I.fa.1 rfl hlen) fun Al W I => ?_
 rcases bTF ((b0g a.xs) != 0) with f31 | f31
 · refine zb I 31 ((b0g a.xs) != 0) (true) (f31) fun Al W I => ?_
   have hN : b0g a.xs ≠ 0 := bne_iff_ne.1 f31
   have hE : c0k f cls a = b0g a.xs := by unfold c0k; rw [if_neg c1, if_pos hN]
   exact zret I fun Al W I => c0r hE hN rfl I.below
 refine zb I 31 ((b0g a.xs) != 0) (false) (f31) fun Al W I => zcut I (some 3000009) (fun fr bx gs => ∃ (U1 : Nat → Value) (b55 : Bool), fr = (.v (vI n) :: aC :: vu :: .p 0 0 :: .v (Go.Value.string (ByteArray.mk #[])) :: .v (vI 0) :: .p 1 0 :: .v (vI 0) :: .v (vI (b0g a.xs)) :: su 2 (sw U1 11 6 (.v (.bool false) :: sw U1 18 8 (.v (.bool false) :: sw U1 27 4 (.v (.bool false) :: sw U1 32 23 (.v (.bool b55) :: sw U1 56 2 (vu :: sw U1 59 7 (vu :: sw U1 67 12 (vu :: sw U1 80 26 (vu :: sw U1 107 8 (su 2 (sw U1 117 5 (vu :: sw U1 123 2 (vu :: sw U1 126 10 (vu :: sw U1 137 4 (vu :: sw U1 142 5 []))))))))))))))) : List SV) ∧ bx = [aB, aA] ∧ gs = [rdF .u32 a.p a.xs, tabF] ∧ (b0g a.xs = 0) ∧ (b55 = decide (((cls = 3 ∨ cls = 4) ∧ f.inf = false) ∨ (cls = 5 ∧ f.res = false)))) ?_ ?_
 · intro J hJ Al W I
   have c2 : b0g a.xs = 0 := by simpa using f31
   rcases bTF (cls == 3) with f35 | f35
   · refine zb I 35 (cls == 3) (true) (f35) fun Al W I => ?_
     rcases bTF (f.inf) with f43 | f43
     · refine zb I 43 (f.inf) (true) (f43) fun Al W I => zb I 49 (cls == 5) (false) (bFn (by have := beq_iff_eq.1 f35; omega)) fun Al W I => a0i I J fun Al W U I => hJ _ _ _ _ _ ⟨U, false, rfl, rfl, rfl, c2, (by first | exact (dTr (.inl ⟨.inl (beq_iff_eq.1 f35), f43⟩)).symm | exact (dFa fun h => by rcases h with ⟨h, k⟩ | ⟨h, k⟩ <;> first | (rw [f43] at k; cases k; done) | (have q := beq_iff_eq.1 f35; omega)).symm)⟩ (I.pick [0, 1])
     refine zb I 43 (f.inf) (false) (f43) fun Al W I => a0i I J fun Al W U I => hJ _ _ _ _ _ ⟨U, true, rfl, rfl, rfl, c2, (by first | exact (dTr (.inl ⟨.inl (beq_iff_eq.1 f35), f43⟩)).symm | exact (dFa fun h => by rcases h with ⟨h, k⟩ | ⟨h, k⟩ <;> first | (rw [f43] at k; cases k; done) | (have q := beq_iff_eq.1 f35; omega)).symm)⟩ (I.pick [0, 1])
   refine zb I 35 (cls == 3) (false) (f35) fun Al W I => ?_
   rcases bTF (cls == 4) with f39 | f39
   · refine zb I 39 (cls == 4) (true) (f39) fun Al W I => ?_
     rcases bTF (f.inf) with f43 | f43
     · refine zb I 43 (f.inf) (true) (f43) fun Al W I => zb I 49 (cls == 5) (false) (bFn (by have := beq_iff_eq.1 f39; omega)) fun Al W I => a0i I J fun Al W U I => hJ _ _ _ _ _ ⟨U, false, rfl, rfl, rfl, c2, (by first | exact (dTr (.inl ⟨.inr (beq_iff_eq.1 f39), f43⟩)).symm | exact (dFa fun h => by rcases h with ⟨h, k⟩ | ⟨h, k⟩ <;> first | (rw [f43] at k; cases k; done) | (have q := beq_iff_eq.1 f39; omega)).symm)⟩ (I.pick [0, 1])
     refine zb I 43 (f.inf) (false) (f43) fun Al W I => a0i I J fun Al W U I => hJ _ _ _ _ _ ⟨U, true, rfl, rfl, rfl, c2, (by first | exact (dTr (.inl ⟨.inr (beq_iff_eq.1 f39), f43⟩)).symm | exact (dFa fun h => by rcases h with ⟨h, k⟩ | ⟨h, k⟩ <;> first | (rw [f43] at k; cases k; done) | (have q := beq_iff_eq.1 f39; omega)).symm)⟩ (I.pick [0, 1])
   refine zb I 39 (cls == 4) (false) (f39) fun Al W I => ?_
   rcases bTF (cls == 5) with f49 | f49
   · refine zb I 49 (cls == 5) (true) (f49) fun Al W I => ?_
     rcases bTF (f.res) with f52 | f52
     · refine zb I 52 (f.res) (true) (f52) fun Al W I => a0i I J fun Al W U I => hJ _ _ _ _ _ ⟨U, false, rfl, rfl, rfl, c2, (by first | exact (dTr (.inr ⟨beq_iff_eq.1 f49, f52⟩)).symm | exact (dFa fun h => by rcases h with ⟨h, k⟩ | ⟨h, k⟩ <;> first | (rw [f52] at k; cases k; done) | (have q := bnF f35; have q2 := bnF f39; omega)).symm)⟩ (I.pick [0, 1])
     refine zb I 52 (f.res) (false) (f52) fun Al W I => a0i I J fun Al W U I => hJ _ _ _ _ _ ⟨U, true, rfl, rfl, rfl, c2, (by first | exact (dTr (.inr ⟨beq_iff_eq.1 f49, f52⟩)).symm | exact (dFa fun h => by rcases h with ⟨h, k⟩ | ⟨h, k⟩ <;> first | (rw [f52] at k; cases k; done) | (have q := bnF f35; have q2 := bnF f39; omega)).symm)⟩ (I.pick [0, 1])
   refine zb I 49 (cls == 5) (false) (f49) fun Al W I => a0i I J fun Al W U I => hJ _ _ _ _ _ ⟨U, false, rfl, rfl, rfl, c2, (by exact (dFa fun h => by rcases h with ⟨h, k⟩ | ⟨h, k⟩ <;> first | (have q := bnF f35; have q2 := bnF f39; omega) | (have q := bnF f49; omega)).symm)⟩ (I.pick [0, 1])
 rintro _ _ _ ⟨U1, b55, rfl, rfl, rfl, c2, h55⟩ Al W I
 refine zcut I (some 2000055) (fun fr bx gs => ∃ (U2 : Nat → Value) , fr = (.v (vI n) :: aC :: vu :: .p 0 0 :: sw U2 4 2 (.p 1 0 :: .v (vI 0) :: .v (vI (b0g a.xs)) :: su 2 (sw U2 11 6 (.v (.bool false) :: sw U2 18 8 (.v (.bool false) :: sw U2 27 4 (.v (.bool false) :: sw U2 32 23 (.v (.bool b55) :: sw U2 56 2 (vu :: sw U2 59 7 (vu :: sw U2 67 12 (vu :: sw U2 80 26 (vu :: sw U2 107 8 (su 2 (sw U2 117 5 (vu :: sw U2 123 2 (vu :: sw U2 126 10 (vu :: sw U2 137 4 (vu :: sw U2 142 5 [])))))))))))))))) : List SV) ∧ bx = [aB, aA] ∧ gs = [rdF .u32 a.p a.xs, tabF] ∧ (¬ (((cls = 3 ∨ cls = 4) ∧ f.inf = false) ∨ (cls = 5 ∧ f.res = false)))) ?_ ?_
 · intro J hJ Al W I
   rcases bTF b55 with rfl | rfl
   · have hE : c0k f cls a = 5 := by unfold c0k; rw [if_neg c1, if_neg (by omega), if_pos (oTr h55.symm)]
     have hN : (5 : Int) ≠ 0 := by decide
     exact zret I fun Al W I => c0r hE hN rfl I.below
   exact a0i I J fun Al W U I => hJ _ _ _ _ _ ⟨U, rfl, rfl, rfl, (oFa h55.symm)⟩ (I.pick [0, 1])
 rintro _ _ _ ⟨U2, rfl, rfl, rfl, c3⟩ Al W I
 rcases bTF (cls == 2) with f58 | f58
 · refine zb I 58 (cls == 2) (true) (f58) fun Al W I => ?_
   have c58 : cls = 2 := beq_iff_eq.1 f58
   rcases bTF (decide (a.e < (-20000))) with f61 | f61
   · refine zb I 61 (decide (a.e < (-20000))) (true) (f61) fun Al W I => ?_
     have hE : c0k f cls a = 3 := by unfold c0k; rw [if_neg c1, if_neg (by omega), if_neg c3, if_pos c58, if_pos (by (have := oTr f61; omega))]
     have hN : (3 : Int) ≠ 0 := by decide
     exact zret I fun Al W I => c0r hE hN rfl I.below
   refine zb I 61 (decide (a.e < (-20000))) (false) (f61) fun Al W I => ?_
   rcases bTF (decide (a.e > 20000)) with f65 | f65
   · refine zb I 65 (decide (a.e > 20000)) (true) (f65) fun Al W I => ?_
     have hE : c0k f cls a = 3 := by unfold c0k; rw [if_neg c1, if_neg (by omega), if_neg c3, if_pos c58, if_pos (by (have := oTr f65; omega))]
     have hN : (3 : Int) ≠ 0 := by decide
     exact zret I fun Al W I => c0r hE hN rfl I.below
   refine zb I 65 (decide (a.e > 20000)) (false) (f65) fun Al W I => ?_
   by_cases h70 : a.xs.length = 0
   · by_cases h77 : a0p d f.g = true
     · have c4 : -20000 ≤ a.e ∧ a.e ≤ 20000 := by have := oFa f61; have := oFa f65; omega
       have hb1 := hbd c2 c4
       refine zd [] I fun Al W I => zk [0, 1, 2] I fun I => zkb 3 I ((a.xs.length : Int) == 0) (true) (beq_iff_eq.2 (by omega)) fun I => zk [4, 5, 6, 7, 8, 9, 10, 11, 12] I fun I => ?_
       have hE : c0k f cls a = 4 := by unfold c0k; rw [if_neg c1, if_neg (by omega), if_neg c3, if_pos c58, if_neg (by omega), if_pos (by first | exact .inl h70 | exact .inr (by rw [hD]; simpa using h77))]
       have hN : (4 : Int) ≠ 0 := by decide
       exact zret I fun Al W I => c0r hE hN rfl I.below
     have c4 : -20000 ≤ a.e ∧ a.e ≤ 20000 := by have := oFa f61; have := oFa f65; omega
     have hb1 := hbd c2 c4
     refine zd [] I fun Al W I => zk [0, 1, 2] I fun I => zkb 3 I ((a.xs.length : Int) == 0) (true) (beq_iff_eq.2 (by omega)) fun I => zk [4, 5, 6, 7, 8, 9, 10, 11, 12] I fun I => ?_
     have hE : c0k f cls a = 4 := by unfold c0k; rw [if_neg c1, if_neg (by omega), if_neg c3, if_pos c58, if_neg (by omega), if_pos (by first | exact .inl h70 | exact .inr (by rw [hD]; simpa using h77))]
     have hN : (4 : Int) ≠ 0 := by decide
     exact zret I fun Al W I => c0r hE hN rfl I.below
   by_cases h77 : a0p d f.g = true
   · have c4 : -20000 ≤ a.e ∧ a.e ≤ 20000 := by have := oFa f61; have := oFa f65; omega
     have hb1 := hbd c2 c4
     refine zd [] I fun Al W I => zk [0, 1, 2] I fun I => zkb 3 I ((a.xs.length : Int) == 0) (false) (bFn (by omega)) fun I => zk [4, 5, 6, 8, 9] I fun I => zo 7 I fun I => zqo I (fun Al W I => (HR W c2 I.fa.1 c4 I.fa.2.1).out) fun Al W p74 c74 I => zo 10 I fun I => zqd I (fun Al W I => have hzW := I.bel.size; r0t d.neg p74 c74 d.e d.m f.g W I.fa.1.rd (by omega) (by omega) (b0o G.g)) (show (i0u ⟨d.neg, d.m, d.e⟩ f.g) = true from hkp.trans h77) fun Al W I => zk [11, 12] I fun I => ?_
     have hi := hige h77
     refine zd [] I fun Al W I => zk [0, 1, 2] I fun I => zo 3 I fun I => zqo I (fun Al W I => (HR W c2 I.fa.2.1 c4 I.fa.2.2.1).out) fun Al W p83 c83 I => zo 4 I fun I => zq I (fun Al W I => have hzW := I.bel.size; d1a f d p83 c83 W G I.fa.1.rd hb1.1 (by omega) h77 (hm0 c2 h70)) fun Al W I => zk [5, 6] I fun I => ?_
     have hE : c0k f cls a = 0 := by unfold c0k; rw [if_neg c1, if_neg (by omega), if_neg c3, if_pos c58, if_neg (by omega), if_neg (fun h => by rcases h with h | h <;> first | exact h70 h | (rw [hD, h77] at h; cases h; done))]
     exact zret I (v := fun Al => .tuple #[.string (a0d (f.strP (f.numP d))), vI 0]) fun Al W I => g0g hE (by rw [show cls.toNat = 2 by omega, e2]) rfl I.below
   have c4 : -20000 ≤ a.e ∧ a.e ≤ 20000 := by have := oFa f61; have := oFa f65; omega
   have hb1 := hbd c2 c4
   refine zd [] I fun Al W I => zk [0, 1, 2] I fun I => zkb 3 I ((a.xs.length : Int) == 0) (false) (bFn (by omega)) fun I => zk [4, 5, 6, 8, 9] I fun I => zo 7 I fun I => zqo I (fun Al W I => (HR W c2 I.fa.1 c4 I.fa.2.1).out) fun Al W p74 c74 I => zo 10 I fun I => zqd I (fun Al W I => have hzW := I.bel.size; r0t d.neg p74 c74 d.e d.m f.g W I.fa.1.rd (by omega) (by omega) (b0o G.g)) (show (i0u ⟨d.neg, d.m, d.e⟩ f.g) = false from hkp.trans (by simpa using h77)) fun Al W I => zk [11, 12] I fun I => ?_
   have hE : c0k f cls a = 4 := by unfold c0k; rw [if_neg c1, if_neg (by omega), if_neg c3, if_pos c58, if_neg (by omega), if_pos (by first | exact .inl h70 | exact .inr (by rw [hD]; simpa using h77))]
   have hN : (4 : Int) ≠ 0 := by decide
   exact zret I fun Al W I => c0r hE hN rfl I.below
 refine zb I 58 (cls == 2) (false) (f58) fun Al W I => zcut I (some 3000017) (fun fr bx gs => ∃ (U3 : Nat → Value) (b106 : Bool), fr = (.v (vI n) :: aC :: vu :: .p 0 0 :: sw U2 4 2 (.p 1 0 :: .v (vI 0) :: .v (vI (b0g a.xs)) :: su 2 (sw U3 11 6 (.v (.bool false) :: sw U3 18 8 (.v (.bool false) :: sw U3 27 4 (.v (.bool false) :: sw U3 32 23 (.v (.bool b55) :: sw U3 56 2 (.v (.bool false) :: sw U3 59 7 (vu :: sw U3 67 12 (vu :: sw U3 80 26 (.v (.bool b106) :: sw U3 107 8 (su 2 (sw U3 117 5 (vu :: sw U3 123 2 (vu :: sw U3 126 10 (vu :: sw U3 137 4 (vu :: sw U3 142 5 [])))))))))))))))) : List SV) ∧ bx = [aB, aA] ∧ gs = [rdF .u32 a.p a.xs, tabF] ∧ (cls ≠ 2) ∧ (b106 = decide (0 < a.xs.length ∨ a.e ≠ 0 ∨ (a.g = true ∧ (4 ≤ cls ∨ f.res = true))))) ?_ ?_
 · intro J hJ Al W I
   have c58 : cls ≠ 2 := bnF f58
   rcases bTF (decide ((a.xs.length : Int) > 0)) with f88 | f88
   · refine zb I 88 (decide ((a.xs.length : Int) > 0)) (true) (f88) fun Al W I => a0i I J fun Al W U I => hJ _ _ _ _ _ ⟨U, true, rfl, rfl, rfl, c58, (by exact (dTr (.inl (by have := oTr f88; omega))).symm)⟩ (I.pick [0, 1])
   refine zb I 88 (decide ((a.xs.length : Int) > 0)) (false) (f88) fun Al W I => ?_
   rcases bTF (a.e != 0) with f92 | f92
   · refine zb I 92 (a.e != 0) (true) (f92) fun Al W I => a0i I J fun Al W U I => hJ _ _ _ _ _ ⟨U, true, rfl, rfl, rfl, c58, (by first | exact (dTr (.inr (.inl (bne_iff_ne.1 f92)))).symm | exact (dFa fun h => by rcases h with h | h | ⟨h, k⟩ <;> first | (have := oFa f88; omega) | (rw [show (a.e != 0) = true from bne_iff_ne.2 h] at f92; cases f92; done)).symm)⟩ (I.pick [0, 1])
   refine zb I 92 (a.e != 0) (false) (f92) fun Al W I => ?_
   rcases bTF (a.g) with f96 | f96
   · refine zb I 96 (a.g) (true) (f96) fun Al W I => ?_
     rcases bTF (decide (cls ≥ 4)) with f100 | f100
     · refine zb I 100 (decide (cls ≥ 4)) (true) (f100) fun Al W I => a0i I J fun Al W U I => hJ _ _ _ _ _ ⟨U, true, rfl, rfl, rfl, c58, (by first | exact (dTr (.inr (.inr ⟨f96, .inl (oTr f100)⟩))).symm | exact (dFa fun h => by rcases h with h | h | ⟨h, k⟩ <;> first | (have := oFa f88; omega) | (rw [show (a.e != 0) = true from bne_iff_ne.2 h] at f92; cases f92; done) | (rw [f96] at h; cases h; done)).symm)⟩ (I.pick [0, 1])
     refine zb I 100 (decide (cls ≥ 4)) (false) (f100) fun Al W I => ?_
     rcases bTF (f.res) with f103 | f103
     · refine zb I 103 (f.res) (true) (f103) fun Al W I => a0i I J fun Al W U I => hJ _ _ _ _ _ ⟨U, true, rfl, rfl, rfl, c58, (by first | exact (dTr (.inr (.inr ⟨f96, .inr f103⟩))).symm | exact (dFa fun h => by rcases h with h | h | ⟨h, k⟩ <;> first | (have := oFa f88; omega) | (rw [show (a.e != 0) = true from bne_iff_ne.2 h] at f92; cases f92; done) | (rw [f96] at h; cases h; done) | (rcases k with k | k <;> first | (have := oFa f100; omega) | (rw [f103] at k; cases k; done))).symm)⟩ (I.pick [0, 1])
     refine zb I 103 (f.res) (false) (f103) fun Al W I => a0i I J fun Al W U I => hJ _ _ _ _ _ ⟨U, false, rfl, rfl, rfl, c58, (by first | exact (dTr (.inr (.inr ⟨f96, .inr f103⟩))).symm | exact (dFa fun h => by rcases h with h | h | ⟨h, k⟩ <;> first | (have := oFa f88; omega) | (rw [show (a.e != 0) = true from bne_iff_ne.2 h] at f92; cases f92; done) | (rw [f96] at h; cases h; done) | (rcases k with k | k <;> first | (have := oFa f100; omega) | (rw [f103] at k; cases k; done))).symm)⟩ (I.pick [0, 1])
   refine zb I 96 (a.g) (false) (f96) fun Al W I => a0i I J fun Al W U I => hJ _ _ _ _ _ ⟨U, false, rfl, rfl, rfl, c58, (by exact (dFa fun h => by rcases h with h | h | ⟨h, k⟩ <;> first | (have := oFa f88; omega) | (rw [show (a.e != 0) = true from bne_iff_ne.2 h] at f92; cases f92; done) | (rw [f96] at h; cases h; done)).symm)⟩ (I.pick [0, 1])
 rintro _ _ _ ⟨U3, b106, rfl, rfl, rfl, c58, h106⟩ Al W I
 refine zcut I (some 2000106) (fun fr bx gs => ∃ (U4 : Nat → Value) , fr = (.v (vI n) :: aC :: vu :: .p 0 0 :: sw U4 4 2 (.p 1 0 :: .v (vI 0) :: .v (vI (b0g a.xs)) :: su 2 (sw U4 11 6 (.v (.bool false) :: sw U4 18 8 (.v (.bool false) :: sw U4 27 4 (.v (.bool false) :: sw U4 32 23 (.v (.bool b55) :: sw U4 56 2 (.v (.bool false) :: sw U4 59 7 (vu :: sw U4 67 12 (vu :: sw U4 80 26 (.v (.bool b106) :: sw U4 107 8 (su 2 (sw U4 117 5 (vu :: sw U4 123 2 (vu :: sw U4 126 10 (vu :: sw U4 137 4 (vu :: sw U4 142 5 [])))))))))))))))) : List SV) ∧ bx = [aB, aA] ∧ gs = [rdF .u32 a.p a.xs, tabF] ∧ (¬ (0 < a.xs.length ∨ a.e ≠ 0 ∨ (a.g = true ∧ (4 ≤ cls ∨ f.res = true))))) ?_ ?_
 · intro J hJ Al W I
   rcases bTF b106 with rfl | rfl
   · have hE : c0k f cls a = 4 := by unfold c0k; rw [if_neg c1, if_neg (by omega), if_neg c3, if_neg c58, if_pos (oTr h106.symm)]
     have hN : (4 : Int) ≠ 0 := by decide
     exact zret I fun Al W I => c0r hE hN rfl I.below
   exact a0i I J fun Al W U I => hJ _ _ _ _ _ ⟨U, rfl, rfl, rfl, (oFa h106.symm)⟩ (I.pick [0, 1])
 rintro _ _ _ ⟨U4, rfl, rfl, rfl, c4⟩ Al W I
 have hE : c0k f cls a = 0 := by unfold c0k; rw [if_neg c1, if_neg (by omega), if_neg c3, if_neg c58, if_neg c4]
 refine zbin I 109 _ (fun _ _ _ _ _ => o0t .i64 (1) .i64 (f.E : Int) ((P : Int)) (by omega) ((HSH.out))) fun Al W I => zi I 110 .i64 ((P : Int) - 1) (((P - 1 : Nat) : Int)) ((by rw [show ((P : Int) - 1) = ((P - 1 : Nat) : Int) by omega]; exact iwo)) fun Al W I => ?_
 rcases bTF (cls == 3) with f35 | f35
 · refine zb I 117 (cls == 3) (true) (f35) fun Al W I => ?_
   have f43 : f.inf = true := by cases hq : f.inf with | true => rfl | false => exact absurd (.inl ⟨.inl (beq_iff_eq.1 f35), hq⟩) c3
   rcases bTF (f.hid) with f121 | f121
   · refine zb I 121 (f.hid) (true) (f121) fun Al W I => zg I (fun Al W I => have hzW := I.bel.size; (hJ0 W a.g ((P - 1 : Nat) : Int) (P - 1) rfl (by omega)).out) fun Al V Iv _ hB _ kz => ?_
     rintro _ W ⟨rfl, hb⟩
     have hS : a0d (f.strP (f.encP cls.toNat a.g d)) = a0d (f.str a.g (P - 1) 0) := by rw [show cls.toNat = 3 by have := beq_iff_eq.1 f35; omega, e3, if_neg (by rw [(hhid f43).1 f121]; simp)]; rfl
     refine ⟨_, rfl, kz _ _ hb fun I => ?_⟩
     exact zret I fun Al W I => g0g hE hS rfl I.below
   refine zb I 121 (f.hid) (false) (f121) fun Al W I => zqo I (fun Al W I => have hzW := I.bel.size; j0b 63 (2 ^ 63) 63 W (by omega) rfl rfl) fun Al W p123 c123 I => zg I (fun Al W I => have hzW := I.bel.size; (hJ W a.g ((P - 1 : Nat) : Int) (P - 1) (2 ^ 63) rfl p123 c123 I.fa.1.rd (by omega) (by rw [hx64 (hext f43 f121)]; omega)).out) fun Al V Iv _ hB _ kz => ?_
   rintro _ W ⟨rfl, hb⟩
   have hS : a0d (f.strP (f.encP cls.toNat a.g d)) = a0d (f.str a.g (P - 1) (2 ^ 63)) := by rw [show cls.toNat = 3 by have := beq_iff_eq.1 f35; omega, e3, if_pos (hext f43 f121)]; rfl
   refine ⟨_, rfl, kz _ _ hb fun I => ?_⟩
   exact zret I fun Al W I => g0g hE hS rfl I.below
 refine zb I 117 (cls == 3) (false) (f35) fun Al W I => ?_
 rcases bTF (cls == 4) with f39 | f39
 · refine zb I 126 (cls == 4) (true) (f39) fun Al W I => ?_
   have f43 : f.inf = true := by cases hq : f.inf with | true => rfl | false => exact absurd (.inl ⟨.inr (beq_iff_eq.1 f39), hq⟩) c3
   refine zi I 130 .i64 ((f.F : Int) - 1) (((f.F - 1 : Nat) : Int)) ((by rw [show ((f.F : Int) - 1) = ((f.F - 1 : Nat) : Int) by omega]; exact iwo)) fun Al W I => zqo I (fun Al W I => have hzW := I.bel.size; j0b (f.F - 1) (2 ^ (f.F - 1)) _ W (by omega) rfl rfl) fun Al W p131 c131 I => ?_
   rcases bTF (f.hid) with f135 | f135
   · refine zb I 135 (f.hid) (true) (f135) fun Al W I => zg I (fun Al W I => have hzW := I.bel.size; (hJ W a.g ((P - 1 : Nat) : Int) (P - 1) (2 ^ (f.F - 1)) rfl p131 c131 I.fa.1.rd (by omega) hF1).out) fun Al V Iv _ hB _ kz => ?_
     rintro _ W ⟨rfl, hb⟩
     have hS : a0d (f.strP (f.encP cls.toNat a.g d)) = a0d (f.str a.g (P - 1) (2 ^ (f.F - 1))) := by rw [show cls.toNat = 4 by have := beq_iff_eq.1 f39; omega, e4, if_neg (by rw [(hhid f43).1 f135]; simp)]; rfl
     refine ⟨_, rfl, kz _ _ hb fun I => ?_⟩
     exact zret I fun Al W I => g0g hE hS rfl I.below
   refine zb I 135 (f.hid) (false) (f135) fun Al W I => zqo I (fun Al W I => have hzW := I.bel.size; j0b 63 (2 ^ 63) 63 W (by omega) rfl rfl) fun Al W p137 c137 I => zqo I (fun Al W I => have hzW := I.bel.size; j0b 62 (2 ^ 62) 62 W (by omega) rfl rfl) fun Al W p138 c138 I => zqo I (fun Al W I => have hzW := I.bel.size; sadd p137 p138 _ _ c137 c138 (2 ^ 63) (2 ^ 62) (2 ^ 63 + 2 ^ 62) W I.fa.2.1.rd I.fa.1.rd rfl rfl (by omega) (by omega) rfl) fun Al W p139 c139 I => zg I (fun Al W I => have hzW := I.bel.size; (hJ W a.g ((P - 1 : Nat) : Int) (P - 1) (2 ^ 63 + 2 ^ 62) rfl p139 c139 I.fa.1.rd (by omega) (by rw [hx64 (hext f43 f135)]; omega)).out) fun Al V Iv _ hB _ kz => ?_
   rintro _ W ⟨rfl, hb⟩
   have hS : a0d (f.strP (f.encP cls.toNat a.g d)) = a0d (f.str a.g (P - 1) (2 ^ 63 + 2 ^ 62)) := by rw [show cls.toNat = 4 by have := beq_iff_eq.1 f39; omega, e4, if_pos (hext f43 f135)]; rfl
   refine ⟨_, rfl, kz _ _ hb fun I => ?_⟩
   exact zret I fun Al W I => g0g hE hS rfl I.below
 refine zb I 126 (cls == 4) (false) (f39) fun Al W I => ?_
 rcases bTF (cls == 5) with f49 | f49
 · refine zb I 142 (cls == 5) (true) (f49) fun Al W I => zg I (fun Al W I => (hJ0 W true 0 0 rfl h0T).out) fun Al V Iv _ hB _ kz => ?_
   rintro _ W ⟨rfl, hb⟩
   have hS : a0d (f.strP (f.encP cls.toNat a.g d)) = a0d (f.str true 0 0) := by rw [show cls.toNat = 5 by have := beq_iff_eq.1 f49; omega, e5]; rfl
   refine ⟨_, rfl, kz _ _ hb fun I => ?_⟩
   exact zret I fun Al W I => g0g hE hS rfl I.below
 refine zb I 142 (cls == 5) (false) (f49) fun Al W I => zg I (fun Al W I => (hJ0 W a.g 0 0 rfl h0T).out) fun Al V Iv _ hB _ kz => ?_
 rintro _ W ⟨rfl, hb⟩
 have hS : a0d (f.strP (f.encP cls.toNat a.g d)) = a0d (f.str a.g 0 0) := by rw [show cls.toNat = 1 by have := bnF f49; have := bnF f35; have := bnF f39; omega, e1]; rfl
 refine ⟨_, rfl, kz _ _ hb fun I => ?_⟩
 exact zret I fun Al W I => g0g hE hS rfl I.below
end Go.Proofs.YtpgomglbaacmdaaGreatDoor
namespace Go.Slip
open Go.RowKit
theorem zlv {P : Program} {Q : Exit → Act → World → Prop} {E : List Nat} {w0 : World} {A : List Nat} {fs : List PF} {W : World} {c : Cfg} (I : Inv E w0 A c.bx fs W) (d n : Nat) (t : TypeId) (xs : List Nat) (hx : xs = [n])
 (h : ∀ A W p, Inv E w0 A (putc (zr P (some d) c) (.v (.slice p xs.length 1))).bx (rfF w0.heap.size p 1 xs :: fs) W → G P Q A (putc (zr P (some d) c) (.v (.slice p xs.length 1))) W)
 (ho : ∀ A w, k0p P (zr P (some d) c) A w = some (.ok (.value (.slice (some ⟨w.heap.size, 0, none⟩) 1 1)) (w.alloc (.cells #[.int .i64 (n : Int)] t))) := by intro _ _; kernel_rfl)
 (hr : ∀ A w, (zms P (some d) 5000 c A w).map (·.1) = (zms P (some d) 5000 c A w).map (·.2) := by intro _ _; kernel_rfl)
 (hm : ok1 (zr P (some d) c).rg (zr P (some d) c).bx = ok2 (zr P (some d) c).rg := by kernel_rfl) : G P Q A c W :=
 b0s I hr fun A W I => by
  have ho := ho A W
  have h := h A
  clear hr
  subst hx
  generalize zr P (some d) c = c at *
  unfold k0p at ho
  split at ho
  · rename_i o hn
    split at ho
    · rename_i hw
      refine G_op (E := E) (w0 := w0) (fs := []) hn fun K hK => j1d o.dst rfl (.slice (some ⟨W.heap.size, 0, none⟩) 1 1) #[.int .i64 (n : Int)] t (by rw [f0c]; exact hw) (by rw [c0a]; exact Option.some.inj ho) fun W' hb _ hB => ?_
      have I2 : Inv E w0 A c.bx (rfF w0.heap.size (some ⟨W.heap.size, 0, none⟩) 1 [n] :: fs) W' := (I.past hb).add (rfF w0.heap.size (some ⟨W.heap.size, 0, none⟩) 1 [n]) ((m1q hB).mono I.bel.size) fun a ha hf => by
       have h1 := I.lt a ha
       have h2 : W.heap.size = a := hf.2
       omega
      have h := h W' (some ⟨W.heap.size, 0, none⟩) I2
      unfold putc at h
      rw [hn] at h
      have := hK A W' _ c.bx (List.prefix_refl _) (I2.pick []) hm h
      rw [show Value.slice (some ⟨W.heap.size, 0, none⟩) 1 1 = (SV.v (.slice (some ⟨W.heap.size, 0, none⟩) [n].length 1)).r A from rfl, d0b]
      exact this
    · cases ho
  · cases ho
end Go.Slip
namespace Go.Slip
def Txt (D : List Nat) : List Nat := D.reverse.map (· + 48)
theorem l1o (D : List Nat) (x : Nat) : Txt (D ++ [x]) = (x + 48) :: Txt D := by simp [Txt]
theorem h0o (D : List Nat) : (Txt D).length = D.length := by simp [Txt]
theorem b1f {D : List Nat} {j : Nat} (h : j < D.length) : dg (Txt D) j = dg D (D.length - 1 - j) + 48 := by
 rw [a0s (by rw [h0o]; exact h), a0s (by omega)]
 simp [Txt]
def w0o (N : Nat) (D : List Nat) (i d A : Nat) : Prop := (∀ x ∈ D, x < 10) ∧ d < 10 ^ (4 - i) ∧ N = val 10 D + 10 ^ D.length * (d + 10 ^ (4 - i) * A)
def m0d (N : Nat) (D : List Nat) (A : Nat) : Prop := (∀ x ∈ D, x < 10) ∧ N = val 10 D + 10 ^ D.length * A
theorem m0d.start (N : Nat) : m0d N [] N := ⟨by simp, by simp⟩
theorem m0d.enter {N : Nat} {D : List Nat} {A : Nat} (h : m0d N D A) : w0o N D 0 (A % 10000) (A / 10000) := by
 refine ⟨h.1, Nat.mod_lt _ (by omega), ?_⟩
 rw [h.2]
 congr 2
 have := Nat.mod_add_div A 10000
 show A = A % 10000 + 10000 * (A / 10000)
 omega
theorem w0o.step {N : Nat} {D : List Nat} {i d A : Nat} (h : w0o N D i d A) (hi : i < 4) : w0o N (D ++ [d % 10]) (i + 1) (d / 10) A := by
 obtain ⟨h1, h2, h3⟩ := h
 have e : 4 - i = 4 - (i + 1) + 1 := by omega
 rw [e, Nat.pow_succ] at h2 h3
 refine ⟨fun x hx => ?_, by omega, ?_⟩
 · rcases List.mem_append.1 hx with hx | hx
   · exact h1 x hx
   · simp at hx; omega
 · rw [h3, e0t, List.length_append, List.length_singleton, Nat.pow_succ]
   have := Nat.mod_add_div d 10
   generalize d % 10 = s at *
   generalize d / 10 = q at *
   subst this
   grind
theorem w0o.leave {N : Nat} {D : List Nat} {d A : Nat} (h : w0o N D 4 d A) : m0d N D A := by
 obtain ⟨h1, h2, h3⟩ := h
 have hd : d = 0 := by simpa using h2
 subst hd
 exact ⟨h1, by rw [h3]; simp⟩
theorem m0d.size {N : Nat} {D : List Nat} {A : Nat} (h : m0d N D A) (hA : 0 < A) : D.length ≤ 16 * (dig B16 N).length := by
 have h1 : 10 ^ D.length ≤ N := by
  rw [h.2]
  have := Nat.le_mul_of_pos_right (10 ^ D.length) hA
  omega
 have h2 := (a0h a0e N _).1 (Nat.le_refl _)
 have h3 : B16 ^ (dig B16 N).length = 2 ^ (16 * (dig B16 N).length) := by rw [Nat.pow_mul]; congr 1
 have h4 : 2 ^ D.length ≤ 10 ^ D.length := Nat.pow_le_pow_left (by omega) _
 have h5 : 2 ^ D.length < 2 ^ (16 * (dig B16 N).length) := by rw [← h3]; omega
 exact Nat.le_of_lt ((Nat.pow_lt_pow_iff_right (by omega)).1 h5)
theorem m0e (D : List Nat) (k : Nat) (hD : ∀ x ∈ D, x < 10) (hk : k < D.length) (hz : ∀ j, D.length - k ≤ j → dg D j = 0) (hs : k + 1 = D.length ∨ dg D (D.length - 1 - k) ≠ 0) :
 (Txt D).drop k = a0t (val 10 D) := by
 have hdrop : (Txt D).drop k = ((D.take (D.length - k)).reverse).map (· + 48) := by
  unfold Txt
  rw [← List.map_drop, List.reverse_take]
  congr 2
  omega
 rw [hdrop]
 unfold a0t
 by_cases h0 : dg D (D.length - 1 - k) = 0
 · have hk1 : k + 1 = D.length := by rcases hs with h | h; exact h; exact absurd h0 h
   have hall : ∀ j, 0 ≤ j → dg D j = 0 := fun j _ => by
    by_cases hj : j = 0
    · subst hj; rw [show D.length - 1 - k = 0 by omega] at h0; exact h0
    · exact hz j (by omega)
   have hv : val 10 D = 0 := by
    have := k0d 10 D 0 (by omega) hall
    simpa using this.symm
   rw [if_pos hv, show D.length - k = 0 + 1 by omega, List.take_succ_eq_append_getElem (show 0 < D.length by omega)]
   have h1 := hall 0 (by omega)
   rw [a0s (show 0 < D.length by omega)] at h1
   simp [h1]
 · have ht := s0d (B := 10) (by omega) D (D.length - k) hD (by omega) hz (.inr (by rw [show D.length - k - 1 = D.length - 1 - k by omega]; exact h0))
   have hv : val 10 D ≠ 0 := by
    intro e
    rw [e, a0c] at ht
    have := congrArg List.length ht
    simp at this
    omega
   rw [if_neg hv, ht]
end Go.Slip
namespace Go.Proofs.YtpgomglbaacmdaaGreatDoor
open Go.RowKit Go.Slip
theorem k0y (N : Nat) (w : World) (hN : N ≤ 9223372036854775807) :
 Calls Tryz.prog 122 #[.int .i64 N] w (e0n w .i64 (dig B16 N)) := by
 have hlN : (dig B16 N).length ≤ 4 := (a0h a0e N 4).2 (by unfold B16; omega)
 go_enter Tryz.func122, Tryz.ntmps122
 go_wp2
 go_loopg [0, 3] N (fun g nv ov wr => ∃ (m : Nat) (t : OA) (e : Nat) (O : List Nat), nv = .int .i64 m ∧ ov = .slice t O.length e ∧ m ≤ g ∧ m ≤ 9223372036854775807 ∧ Hid (O ++ dig B16 m = dig B16 N) ∧
     Own wr w.heap.size .i64 3 t e O ∧ Below w.heap.size w wr)
 case atStart => exact ⟨N, none, 0, [], rfl, rfl, Nat.le_refl _, hN, rfl, Own.nil _ _ _ _, Below.refl _ _⟩
 case round =>
  obtain ⟨m, t, e, O, rfl, rfl, hg, hm, HR, hoq, hb⟩ := hrel
  have hOl : O.length ≤ 4 := by have := congrArg List.length HR.out; rw [List.length_append] at this; omega
  by_cases h0 : 0 < m
  · have HS : Hid ((O ++ [m % B16]) ++ dig B16 (m / B16) = dig B16 N) := by
     show _ = _
     rw [← HR.out, c0d a0e h0, List.append_assoc]; rfl
    go_wp2_with (first
      | (refine a0r rfl _ _ rfl tyN _ ?_ rfl ?_; omega; intro p2 w2 ho2 hb2 hz2 hp2)
      | (at_builtin; refine a0z rfl _ _ _ rfl tyN _ _ _ _ _ (hoq.past hb2) rfl _ _ _ _ ho2.rd rfl rfl rfl ?_ ?_ ?_; (simp; omega); (have := hb2.size; have := hb.size; omega); intro p3 c3 w3 ho3 hg3 hb3 hn3))
    have hb4 := hb.trans ((hb2.mono hb.size).trans hb3)
    have e4 : ((m : Int) % 65536).toNat = m % B16 := by unfold B16; omega
    rw [e4] at ho3
    go_roundg (m / 65536)
    case measure => omega
    case rel => exact ⟨m / 65536, p3, c3, _, by go_num, by simp, Nat.le_refl _, by omega, HS, ho3, hb4⟩
  · obtain rfl : m = 0 := by omega
    have HD : Hid (O = dig B16 N) := by show _ = _; rw [← HR.out, a0c, List.append_nil]
    go_wp2
    go_ret
    exact w0b HD.out rfl hoq hb
theorem q0m (s : ByteArray) (hd : a1h s) (k : Nat) (hk : k ≤ s.size) : (dig B16 (a0l ((a0b s).take k))).length ≤ k := by
 rw [a0h a0e]
 have h1 := g0k ((a0b s).take k) (fun j hj => by
   rw [List.length_take, a0q] at hj
   rw [f0g (by omega)]
   exact (hd j (by omega)).2)
 rw [List.length_take, a0q, Nat.min_eq_left hk] at h1
 exact Nat.lt_of_lt_of_le h1 (Nat.pow_le_pow_left (by unfold B16; omega) k)
theorem u0f : dig B16 10 = [10] := h0l a0e (by omega) (by unfold B16; omega)
theorem n0v (s : ByteArray) (w : World) (hs : s.size ≤ 100000000) (hd : a1h s) :
 Calls Tryz.prog 70 #[.string s] w (e0n w .i64 (dig B16 (a0l (a0b s)))) := by
 have HD := hi0 hd
 have HT := hi0 (a0q s)
 clear hd
 go_enter Tryz.func70, Tryz.ntmps70
 go_wp2
 go_loopg [3, 4] s.size (fun g av iv wr => ∃ (k : Nat) (t : OA) (e : Nat) (a : Nat), iv = .int .i64 k ∧ av = .slice t (dig B16 a).length e ∧ g + k = s.size ∧ Hid (a = a0l ((a0b s).take k)) ∧
     Rd wr .i64 t (dig B16 a) ∧ (dig B16 a).length ≤ e ∧ (0 < (dig B16 a).length → w.heap.size ≤ blk t) ∧ Below w.heap.size w wr)
 case atStart => exact ⟨0, none, 0, 0, rfl, by rw [a0c]; rfl, by omega, (show 0 = a0l (List.take 0 _) by simp [a0l]), by rw [a0c]; exact Rd.nil _ _ _, by rw [a0c]; simp, by rw [a0c]; simp, Below.refl _ _⟩
 case round =>
  obtain ⟨k, t, e, a, rfl, rfl, hg, HA, hr, hc, hbk, hb⟩ := hrel
  have hal : (dig B16 a).length ≤ k := by rw [HA.out]; exact q0m s HD.out k (by omega)
  by_cases hlt : k < s.size
  · have hgt := r0f s k hlt
    obtain ⟨hv1, hv2⟩ := HD.out k hlt
    obtain ⟨v, hv⟩ : ∃ v, dg (a0b s) k = v + 48 := ⟨dg (a0b s) k - 48, by omega⟩
    have HN : Hid (10 * a + v = a0l ((a0b s).take (k + 1))) := by
     show _ = _
     rw [e0i _ _ (by rw [HT.out]; exact hlt), ← HA.out, hv]; omega
    rw [hv] at hgt
    have hv9 : v ≤ 9 := by omega
    clear hv hv1 hv2
    have hml := a0x a0e a 10
    rw [u0f] at hml
    simp only [List.length_singleton] at hml
    have hvl : (dig B16 v).length ≤ 1 := (a0h a0e v 1).2 (by unfold B16; omega)
    have hvB : v ≤ 9223372036854775807 := by omega
    have hTB : (dig B16 a).length + (dig B16 10).length ≤ 1000000000 := by rw [u0f]; simp; omega
    have hPB : (dig B16 (a * 10)).length + (dig B16 v).length ≤ 1000000000 := by omega
    have e0 : IntKind.i64.wrap ((v : Int) + 48) = (v : Int) + 48 := iwo
    have e1 : IntKind.i64.wrap ((v : Int) + 48 - 48) = (v : Int) := by rw [show (v : Int) + 48 - 48 = v by omega]; exact iwo
    have e2 : IntKind.i64.wrap (v : Int) = (v : Int) := iwo
    have hten : Rd (wr.alloc (.cells #[.int .i64 10] 3)).drew .i64 (some ⟨wr.heap.size, 0, none⟩) (dig B16 10) := by rw [u0f]; exact (n1x wr .i64 3 10 (by decide)).drew.rd
    have hrt := (hr.laid (.cells #[.int .i64 10] 3)).drew
    have hone := hi0 (show 1 = (dig B16 10).length by rw [u0f]; rfl)
    have i0 : (0 : Int) ≤ (k : Int) := by omega
    have i1 : (k : Int) < (s.size : Int) := by omega
    go_wp2_with fail
    go_region_held3 (fun w' => True) (exact trivial)
     (first
       | (go_at_call 122; refine (k0y v _ hvB).mono ?_; rintro e4 w4 ⟨p4, c4, rfl, ho4, -, -, hb4⟩)
       | (go_at_call 26; refine (k0x p3 p4 _ _ c3 c4 (a * 10) v _ (ho3.past hb4) ho4 rfl rfl hPB).mono ?_; rintro e5 w5 ⟨p5, c5, rfl, ho5, hc5, hn5, hb5⟩)
       | (go_at_call 64; refine (g0n t (some ⟨wr.heap.size, 0, none⟩) (dig B16 a).length 1 e 1 a 10 (wr.alloc (.cells #[.int .i64 10] 3)).drew hrt hten rfl hone.out hTB).mono ?_; rintro e3 w3 ⟨p3, c3, rfl, ho3, -, -, hb3⟩))
    all_goals
     have hA := hb.trans (((Below.refl w.heap.size wr).alloc hb.size (.cells #[.int .i64 10] 3)).drew)
     have h3 := hA.trans (hb3.mono hA.size)
     have h4 := h3.trans (hb4.mono h3.size)
     have h5 := h4.trans (hb5.mono h4.size)
     clear e0 e1 e2 hten hrt hb3 hb4 hb5
     rw [Nat.mul_comm a 10] at ho5 hc5 hn5 ⊢
     go_wp2
     go_roundg (s.size - 1 - k)
     case measure => omega
     case rel => exact ⟨k + 1, p5, c5, 10 * a + v, by go_num, rfl, by omega, HN, ho5, hc5, fun h => Nat.le_trans h4.size (hn5 h), h5⟩
  · obtain rfl : k = s.size := by omega
    have HE : Hid (a = a0l (a0b s)) := by
     show _ = _
     rw [HA.out, List.take_of_length_le (by rw [HT.out]; exact Nat.le_refl _)]
    go_wp2
    go_ret
    rw [← HE.out]
    exact ⟨t, e, rfl, hr, hc, hbk, hb⟩
theorem _root_.Go.Slip.SmallRel.skip {B : Nat} {L xs : List Nat} {d k r : Nat} (h : SmallRel B L xs d (k + 1) r) (hk : k < xs.length) (hL : k < L.length) (hx : dg xs k < B) (hz : dg L k = 0) (hlt : r * B + dg xs k < d) : SmallRel B L xs d k (r * B + dg xs k) := by
 have h1 := (h.step hk hL hx).1
 rw [Nat.div_eq_of_lt hlt, Nat.mod_eq_of_lt hlt, i1z L k hz] at h1
 exact h1
theorem p0s {B R j : Nat} : R / B ^ j = B * (R / B ^ (j + 1)) + R / B ^ j % B := by
 rw [Nat.pow_succ, ← Nat.div_div_eq_div_mul, Nat.div_add_mod]
theorem h1p {B : Nat} (hB : 2 ≤ B) (R j : Nat) : dg (dig B R) j = R / B ^ j % B := by
 have h1 := i0p (B := B) (by omega) (dig B R) (b0d hB R) j
 have h2 := g0c B (dig B R) j
 rw [b0a hB] at h1
 rw [h1] at h2
 rw [h2, Nat.add_mul_mod_self_left, Nat.mod_eq_of_lt (a0n (by omega) _ (b0d hB R) j)]
theorem l1p {R n k tp : Nat} (hk : k ≤ n) (h : tp = R / B16 ^ (n + 1 - k)) : 65536 * tp + dg (dig B16 R) (n - k) = R / B16 ^ (n - k) := by
 rw [h1p a0e, h, show n + 1 - k = n - k + 1 by omega]
 exact (p0s (B := B16)).symm
theorem t1f {R n k : Nat} (hk : k ≤ n + 1) (h : R < B16 ^ (n + 1)) : R / B16 ^ (n + 1 - k) < B16 ^ k := by
 rw [Nat.div_lt_iff_lt_mul (Nat.pow_pos g0a), ← Nat.pow_add, show k + (n + 1 - k) = n + 1 by omega]
 exact h
theorem h1q {b n : Nat} (h2 : (dig B16 b).length = n + 2) : dg (dig B16 b) (n + 1) * 65536 + dg (dig B16 b) n = b / B16 ^ n ∧ B16 ≤ b / B16 ^ n := by
 have hb : b < B16 ^ (n + 2) := (a0h a0e b _).1 (by omega)
 have h0 : 0 < b := by
  have := a0f a0e b
  omega
 have h1 := d0v a0e b h0
 rw [h2] at h1
 have e1 : b / B16 ^ (n + 2) = 0 := Nat.div_eq_of_lt hb
 have e2 : b / B16 ^ n = B16 * (b / B16 ^ (n + 1)) + b / B16 ^ n % B16 := p0s
 have e3 : b / B16 ^ (n + 1) = B16 * (b / B16 ^ (n + 2)) + b / B16 ^ (n + 1) % B16 := p0s
 rw [h1p a0e, h1p a0e]
 have e4 : b / B16 ^ (n + 1) % B16 = b / B16 ^ (n + 1) := by rw [e1] at e3; omega
 refine ⟨by rw [e4, show (65536 : Nat) = B16 from rfl, Nat.mul_comm]; exact e2.symm, ?_⟩
 rw [Nat.le_div_iff_mul_le (Nat.pow_pos g0a), Nat.mul_comm, ← Nat.pow_succ]
 exact h1
theorem w0p (p q : OA) (n m c e0 : Nat) (a b nn : Nat) (w : World) (hp : Rd w .i64 p (dig B16 a)) (hq : Rd w .i64 q (dig B16 b)) (hn : n = (dig B16 a).length) (hm : m = (dig B16 b).length)
 (hl : (dig B16 a).length ≤ 100000000) (hl2 : (dig B16 b).length ≤ 100000000) (h2 : (dig B16 b).length = nn + 2) :
 Calls Tryz.prog 71 #[.slice p n c, .slice q m e0] w (y0q w .i64 (dig B16 (a / b)) (dig B16 (a % b))) := by
 subst hn hm
 have HA := hi0 (b0a a0e a)
 have HXL := hi0 (b0d a0e a)
 generalize dig B16 a = xs at *
 obtain ⟨hun, hub⟩ := h1q h2
 obtain ⟨ys, hys⟩ : ∃ ys, ys = dig B16 b := ⟨_, rfl⟩
 rw [← hys] at hq hl2 h2 hun ⊢
 obtain ⟨b1, hb1⟩ : ∃ b1, dg ys (nn + 1) = b1 := ⟨_, rfl⟩
 obtain ⟨b0, hb0⟩ : ∃ b0, dg ys nn = b0 := ⟨_, rfl⟩
 rw [hb1, hb0] at hun
 have hb1l : b1 < 65536 := by rw [← hb1, hys]; exact a0n (B := 65536) (by omega) _ (b0d a0e b) _
 have hb0l : b0 < 65536 := by rw [← hb0, hys]; exact a0n (B := 65536) (by omega) _ (b0d a0e b) _
 obtain ⟨un, hunn⟩ : ∃ un, un = b1 * 65536 + b0 := ⟨_, rfl⟩
 rw [← hunn] at hun
 have hul : un < 4294967296 := by omega
 have HUN := hi0 hun
 have HUB := hi0 (show B16 ≤ un by rw [hun]; exact hub)
 have eun : (b1 : Int) * 65536 + (b0 : Nat) = (un : Nat) := by omega
 have HYS := hi0 hys
 have HN := hi0 h2
 have y2 : 2 ≤ ys.length := by omega
 have hsx := hp.solid
 have hsy := hq.solid
 have t1 : ((ys.length : Int) == 1) = false := bFn (by omega)
 have hcb1 := hq.cells (ys.length - 1) (by omega)
 have hcb0 := hq.cells (ys.length - 2) (by omega)
 rw [show ys.length - 1 = nn + 1 by omega, hb1, show nn + 1 = ys.length - 1 by omega] at hcb1
 rw [show ys.length - 2 = nn by omega, hb0, show nn = ys.length - 2 by omega] at hcb0
 have HB : Hid (0 < b) := by
  have := a0f a0e b
  rw [← hys] at this
  show 0 < b
  omega
 have HBL := hi0 (show b < B16 ^ (nn + 2) from (a0h a0e b _).1 (by rw [← hys]; omega))
 clear hys h2 hun hub hunn hb1 hb0
 go_enter Tryz.func71, Tryz.ntmps71
 go_wp2_with (refine h0s rfl _ _ _ rfl tyN .i64 .i64 xs.length _ _ rfl rfl ?_ ?_ ?_ ?_; omega; omega; omega; intro p1 c1 w1 ho1 hb1 hz1)
 have hsz1 := hb1.size
 have hp1l : p1.isSome = true → blk p1 < w1.heap.size := fun h => (ho1.blk_lt h).2
 go_loopw [10, 11] (fun rv iv wr => ∃ (k r : Nat) (L : List Nat) (pr : OA) (cr : Nat), iv = .int .i64 ((k : Int) - 1) ∧ rv = .slice pr (dig B16 r).length cr ∧ k ≤ xs.length ∧ Hid (L.length = xs.length) ∧ Rd wr .i64 pr (dig B16 r) ∧ (dig B16 r).length ≤ cr ∧
     (0 < (dig B16 r).length → w1.heap.size ≤ blk pr) ∧ Own wr w.heap.size .i64 3 p1 c1 L ∧ Below w.heap.size w wr ∧ w1.heap.size ≤ wr.heap.size ∧ Hid (SmallRel B16 L xs b k r ∧ ∀ i, i < k → dg L i = 0))
  (fun _ iv _ => (intOf iv + 1).toNat)
 case atStart => exact ⟨xs.length, 0, _, none, 0, rfl, by rw [a0c]; rfl, Nat.le_refl _, List.length_replicate, by rw [a0c]; exact Rd.nil _ _ _, by rw [a0c]; simp, by rw [a0c]; simp, ho1, hb1, Nat.le_refl _,
   ⟨⟨fun x hx => by rw [(List.mem_replicate.1 hx).2]; exact g0a, HB.out, by simp⟩, fun i _ => c0s _ _⟩⟩
 case round =>
  obtain ⟨k, r, L, pr, cr, rfl, rfl, hk, hL, hrr, hrc, hrb, hoL, hbL, hszL, HR⟩ := hrel
  have hpL := hp.past hbL
  have hqL := hq.past hbL
  by_cases h0 : 0 < k
  · obtain ⟨j, rfl⟩ : ∃ j, k = j + 1 := ⟨k - 1, by omega⟩
    have ej : ((j + 1 : Nat) : Int) - 1 = j := by omega
    rw [ej]
    have hc1 := hpL.cells j (by omega)
    have hxd := a0n (B := 65536) (by omega) xs HXL.out j
    obtain ⟨x, hx⟩ : ∃ x, dg xs j = x := ⟨_, rfl⟩
    rw [hx] at hc1 hxd
    obtain ⟨R, hRR⟩ : ∃ R, R = r * B16 + x := ⟨_, rfl⟩
    have HX := hi0 hx
    have HRR := hi0 hRR
    have hrl : (dig B16 r).length ≤ ys.length := by rw [HYS.out]; exact a0j a0e (Nat.le_of_lt HR.out.1.2.1)
    have HLD : Hid (∀ y ∈ [x] ++ dig B16 r, y < B16) := by
     intro y hy
     rcases List.mem_append.1 hy with h | h
     · simp at h; rw [h]; exact hxd
     · exact b0d a0e r y h
    have HVR : Hid (val B16 ([x] ++ dig B16 r) = R) := by
     show val B16 ([x] ++ dig B16 r) = R
     rw [List.singleton_append, val_cons, b0a a0e, hRR, Nat.mul_comm B16 r]; omega
    have HRB := hi0 (show R < b * B16 by have := HR.out.1.push (by rw [hx]; exact hxd); rw [hRR, ← hx, Nat.mul_comm r B16]; omega)
    clear hx hRR ej
    have hxs := hsx
    go_wp2_with (first
      | (refine a0r rfl _ _ rfl tyN _ ?_ rfl ?_; omega; intro p2 w2 ho2 hb2 hz2 hp2)
      | (at_builtin; rw [Int.toNat_natCast] at ho2; refine a0z rfl _ _ _ rfl tyN _ _ _ _ _ ho2 rfl _ _ _ _ (hrr.past hb2) rfl rfl rfl ?_ ?_ ?_; (simp; omega); (have := hb2.size; omega); intro p3 c3 w3 ho3 hg3 hb3 hn3))
    refine (d0z p3 _ c3 ([x] ++ dig B16 r) _ ho3.rd rfl ho3.le_cap HLD.out (by simp; omega)).mono ?_
    rintro e w4 ⟨rfl, rfl⟩
    rw [HVR.out]
    have hrt := ho3.take (dig B16 (val B16 ([x] ++ dig B16 r))).length
    rw [b0c a0e _ HLD.out, HVR.out] at hrt
    have hrn : 0 < (dig B16 R).length → w1.heap.size ≤ blk p3 := fun h => by
     have := (hrt.blk_lt (hrt.rd.solid h).1).1
     omega
    have hb23 := hb2.trans hb3
    have hoL3 := hoL.past hb23
    have hs3 := hbL.trans (hb23.mono hbL.size)
    have hsz3 : w1.heap.size ≤ w3.heap.size := Nat.le_trans hszL hb23.size
    have hrR := hrt.rd
    have hrl2 : (dig B16 R).length ≤ ys.length + 1 := by
     rw [a0h a0e, HN.out, show nn + 2 + 1 = (nn + 2) + 1 by omega, Nat.pow_succ]
     exact Nat.lt_of_lt_of_le HRB.out (Nat.mul_le_mul_right _ (Nat.le_of_lt HBL.out))
    clear hb2 hb3 hz2 hp2 ho2 ho3 hg3 hn3 hb23 hrt hrr hrc hrb hoL hbL hszL hpL hc1
    have hq3 := hq.past hs3
    have hq3b : Rd w3 .i64 q (dig B16 b) := by rw [← HYS.out]; exact hq3
    have lyb := hi0 (show ys.length = (dig B16 b).length by rw [← HYS.out])
    have lyb2 : (dig B16 b).length ≤ 100000000 := by rw [← HYS.out]; exact hl2
    go_wp2_with fail
    refine (d0o p3 q _ _ _ e0 R b _ hrR hq3b rfl lyb.out (by omega) (by omega)).mono ?_
    rintro e w5 ⟨rfl, hb5⟩
    have hrR := hrR.past hb5
    have hoL5 := hoL3.past hb5
    have hs5 := hs3.trans (hb5.mono hs3.size)
    have hsz5 : w1.heap.size ≤ w5.heap.size := Nat.le_trans hsz3 hb5.size
    have hsb5 := hs5.size
    have hq5 := hq.past hs5
    clear hb5 hoL3 hs3 hsz3 hq3 hq3b
    by_cases hRb : R < b
    · have hC : cmpN R b ≤ -1 := by rw [g0u hRb]; omega
      have HS : Hid (SmallRel B16 L xs b j R ∧ ∀ i, i < j → dg L i = 0) := by
       have h := HR.out.1.skip (by omega) (by rw [hL.out]; omega) (by rw [HX.out]; exact hxd) (HR.out.2 j (by omega)) (by rw [HX.out, ← HRR.out]; exact hRb)
       rw [HX.out, ← HRR.out] at h
       exact ⟨h, fun i hi => HR.out.2 i (by omega)⟩
      clear hRb
      go_wp2_with fail
      go_roundw
      case rel => exact ⟨j, R, L, p3, _, rfl, rfl, by omega, hL, hrR, Nat.le_refl _, hrn, hoL5, hs5, hsz5, HS⟩
      case measure => first | (simp [intOf]; done) | (simp [intOf]; omega)
    · have hC : 0 ≤ cmpN R b := by unfold cmpN; rw [if_neg hRb]; split <;> omega
      have HRb := hi0 hRb
      have hsr := hrR.solid
      have c1 := hq5.cells (ys.length - 1) (by omega)
      have c0 := hq5.cells (ys.length - 2) (by omega)
      have i1 := (hq.cells (ys.length - 1) (by omega)).symm.trans hcb1
      have i0 := (hq.cells (ys.length - 2) (by omega)).symm.trans hcb0
      simp only [Option.some.injEq, Value.int.injEq, true_and] at i1 i0
      rw [i1] at c1
      rw [i0] at c0
      clear i1 i0 hRb
      have f1 : (0 : Int) ≤ (ys.length : Int) - 1 := by omega
      have f2 : (ys.length : Int) - 1 < (ys.length : Int) := by omega
      have f3 : (0 : Int) ≤ (ys.length : Int) - 2 := by omega
      have f4 : (ys.length : Int) - 2 < (ys.length : Int) := by omega
      have e1 : IntKind.i64.wrap ((ys.length : Int) - 1) = (ys.length : Int) - 1 := iwo
      have e2 : IntKind.i64.wrap ((ys.length : Int) - 2) = (ys.length : Int) - 2 := iwo
      have e3 : ((ys.length : Int) - 1).toNat = ys.length - 1 := by omega
      have e4 : ((ys.length : Int) - 2).toNat = ys.length - 2 := by omega
      have e5 : IntKind.i64.wrap ((b1 : Int) * 65536) = (b1 : Int) * 65536 := iwo
      have e6 : IntKind.i64.wrap (un : Int) = (un : Int) := iwo
      go_wp2_with fail
      go_quiet (fail)
      clear f1 f2 f3 f4 e1 e2 e3 e4 e5 e6 c1 c0
      have hrR := hrR.drewN nq
      have hoL6 := hoL5.drewN nq
      have hs6 := below_drewN hs5 nq
      have hq6 := hq5.drewN nq
      have hsz6 : w1.heap.size ≤ (w5.drewN nq).heap.size := hsz5
      generalize w5.drewN nq = w6 at *
      clear hoL5 hs5 hq5 hsz5 hsb5
      go_wp2_with fail
      have HRn := hi0 (show R < B16 ^ (ys.length + 1) by rw [HN.out, Nat.pow_succ]; exact Nat.lt_of_lt_of_le HRB.out (Nat.mul_le_mul_right _ (Nat.le_of_lt HBL.out)))
      go_loop [12, 14] (fun tv kv => ∃ (kk tp : Nat), kv = .int .i64 kk ∧ tv = .int .i64 tp ∧ kk ≤ 3 ∧ tp < 281474976710656 ∧ (kk < 3 → tp < 4294967296) ∧ Hid (tp = R / B16 ^ (ys.length + 1 - kk))) (fun _ kv => 3 - (intOf kv).toNat)
      case atStart => exact ⟨0, 0, rfl, rfl, by omega, by omega, fun _ => by omega, (show 0 = R / B16 ^ (ys.length + 1 - 0) from (Nat.div_eq_of_lt HRn.out).symm)⟩
      case round =>
       obtain ⟨kk, tp, rfl, rfl, hkk, htp, htp2, HT⟩ := hrel
       by_cases hk3 : kk < 3
       · have htp3 := htp2 hk3
         obtain ⟨dd, hdd⟩ : ∃ dd, dg (dig B16 R) (ys.length - kk) = dd := ⟨_, rfl⟩
         have hstep := l1p (R := R) (n := ys.length) (k := kk) (by omega) HT.out
         rw [hdd] at hstep
         have hlt := t1f (R := R) (n := ys.length) (k := kk + 1) (by omega) HRn.out
         rw [show ys.length + 1 - (kk + 1) = ys.length - kk by omega, ← hstep] at hlt
         have hlt3 : 65536 * tp + dd < 281474976710656 := Nat.lt_of_lt_of_le hlt (Nat.le_trans (Nat.pow_le_pow_right g0a (show kk + 1 ≤ 3 by omega)) (by decide))
         have hlt2 : kk + 1 < 3 → 65536 * tp + dd < 4294967296 := fun h => Nat.lt_of_lt_of_le hlt (Nat.le_trans (Nat.pow_le_pow_right g0a (show kk + 1 ≤ 2 by omega)) (by decide))
         have HS : Hid (65536 * tp + dd = R / B16 ^ (ys.length + 1 - (kk + 1))) := by rw [show ys.length + 1 - (kk + 1) = ys.length - kk by omega]; exact hstep
         have hddl : dd < 65536 := by rw [← hdd]; exact a0n (B := 65536) (by omega) _ (b0d a0e R) _
         have g1 : (0 : Int) ≤ (ys.length : Int) - (kk : Int) := by omega
         have g3 : ((ys.length : Int) - (kk : Int)).toNat = ys.length - kk := by omega
         clear hlt hstep
         by_cases hat : ys.length - kk < (dig B16 R).length
         · have hcr := hrR.cells (ys.length - kk) hat
           rw [hdd] at hcr
           have g2 : (ys.length : Int) - (kk : Int) < ((dig B16 R).length : Int) := by omega
           have HL2 := hi0 hlt2
           clear hat hdd hlt2 htp2
           go_wp2_with fail
           go_round
           case rel => exact ⟨kk + 1, 65536 * tp + dd, by go_num, by go_num, by omega, hlt3, HL2.out, HS⟩
           case measure => simp [intOf]; omega
         · have hd0 : dd = 0 := by rw [← hdd]; exact b0n (by omega)
           subst hd0
           have g2 : ((dig B16 R).length : Int) ≤ (ys.length : Int) - (kk : Int) := by omega
           have HL2 := hi0 hlt2
           clear hat hdd hlt2 htp2
           go_wp2_with fail
           go_round
           case rel => exact ⟨kk + 1, 65536 * tp + 0, by go_num, by go_num, by omega, hlt3, HL2.out, HS⟩
           case measure => simp [intOf]; omega
       · obtain rfl : kk = 3 := by omega
         have hT : tp = R / B16 ^ nn := by have := HT.out; rw [HN.out, show nn + 2 + 1 - 3 = nn by omega] at this; exact this
         obtain ⟨ht1, ht2⟩ := b1w (P := B16 ^ nn) (Nat.pow_pos g0a) (by rw [← HUN.out]; exact HUB.out) HRB.out
         rw [← hT, ← HUN.out] at ht1 ht2
         have hqd : R / b < 65536 := by rw [Nat.div_lt_iff_lt_mul HB.out, Nat.mul_comm]; exact HRB.out
         obtain ⟨xq, hxq⟩ : ∃ xq, xq = tp / (un + 1) := ⟨_, rfl⟩
         obtain ⟨qd, hqq⟩ : ∃ qd, qd = R / b := ⟨_, rfl⟩
         rw [← hxq, ← hqq] at ht1 ht2
         rw [← hqq] at hqd
         have ex : (tp : Int) / ((un : Int) + 1) = (xq : Nat) := by rw [hxq]; rfl
         have HQD := hi0 hqq
         have hu1 : (1 : Int) ≤ (un : Int) + 1 := by omega
         clear hT hxq hqq hk3 htp2
         go_wp2_with fail
         obtain ⟨d0, hd0⟩ : ∃ d0 : Nat, (d0 : Int) = min 65535 (max 0 ((xq : Int) - 1) + 4) := ⟨(min 65535 (max 0 ((xq : Int) - 1) + 4)).toNat, by omega⟩
         have hd1 : qd ≤ d0 := by omega
         have hd2 : d0 ≤ 65535 := by omega
         have HD0 := hi0 hd0
         clear hd0 ex ht1 ht2 hu1
         go_loopg [10, 17] d0 (fun g rv dv wr2 => ∃ (d : Nat), d = g ∧ rv = .slice p3 (dig B16 R).length (dig B16 R).length ∧ dv = .int .i64 d ∧ qd ≤ d ∧ d ≤ 65535 ∧ Below w6.heap.size w6 wr2)
         case atStart => exact ⟨d0, rfl, rfl, congrArg (Value.int .i64) HD0.out.symm, hd1, hd2, Below.refl _ _⟩
         case round =>
          obtain ⟨d, rfl, rfl, rfl, hqd1, hdl, hb7⟩ := hrel
          have ld : (dig B16 d).length ≤ 1 := (a0h a0e d 1).2 (by unfold B16; omega)
          have lbd : (dig B16 (b * d)).length ≤ 100000001 := by have := a0x a0e b d; omega
          go_wp2_with fail
          ((with_reducible refine (k0y d _ (by omega)).mono ?_))
          rintro e w8 ⟨p8, c8, rfl, hr8, -, -, hb8⟩
          have hs8 := hb7.trans (hb8.mono hb7.size)
          have hq8 : Rd w8 .i64 q (dig B16 b) := by rw [← HYS.out]; exact hq6.past hs8
          clear hb7 hb8
          go_wp2_with fail
          ((with_reducible refine (g0n q p8 _ _ e0 c8 b d _ hq8 hr8 lyb.out rfl (by omega)).mono ?_))
          rintro e w9 ⟨p9, c9, rfl, hr9, -, -, hb9⟩
          have hs9 := hs8.trans (hb9.mono hs8.size)
          clear hs8 hb9 hr8 hq8
          go_wp2_with fail
          ((with_reducible refine (d0o p9 p3 _ _ c9 _ (b * d) R _ hr9 (hrR.past hs9) rfl rfl (by omega) (by omega)).mono ?_))
          rintro e w10 ⟨rfl, hb10⟩
          have hs10 := hs9.trans (hb10.mono hs9.size)
          have hr10 := hr9.past hb10
          have hrR10 := hrR.past hs10
          clear hs9 hb10 hr9
          by_cases hle : b * d ≤ R
          · have hC2 : cmpN (b * d) R ≤ 0 := by unfold cmpN; split; omega; rw [if_neg (by omega)]; omega
            have hdq : d = qd := by
             have : d ≤ qd := by rw [HQD.out, Nat.le_div_iff_mul_le HB.out, Nat.mul_comm]; exact hle
             omega
            have HMM := hi0 (show R - b * d = R % b by rw [hdq, HQD.out]; have := Nat.div_add_mod R b; omega)
            have HS : Hid (SmallRel B16 (L.set j d) xs b j (R % b) ∧ ∀ i, i < j → dg (L.set j d) i = 0) := by
             have h := (HR.out.1.step (by omega) (by rw [hL.out]; omega) (by rw [HX.out]; exact hxd)).1
             rw [HX.out, ← HRR.out, ← HQD.out, ← hdq] at h
             exact ⟨h, fun i hi => by rw [b0r (by omega)]; exact HR.out.2 i (by omega)⟩
            have HLE := hi0 hle
            clear hdq hle
            go_wp2_with fail
            ((with_reducible refine (i0g p3 p9 _ _ _ c9 R (b * d) _ hrR10 hr10 rfl rfl (by omega) HLE.out).mono ?_))
            rw [HMM.out]
            rintro e w11 ⟨p11, c11, rfl, hr11, hl11, hk11, hb11⟩
            have hs11 := hs10.trans (hb11.mono hs10.size)
            have hk12 : 0 < (dig B16 (R % b)).length → w1.heap.size ≤ blk p11 := fun h => by
             have := hk11 h
             have := hs10.size
             omega
            have hoL11 := hoL6.past hs11
            have hbw11 := hs6.trans (hs11.mono hs6.size)
            have hsz11 : w1.heap.size ≤ w11.heap.size := Nat.le_trans hsz6 hs11.size
            have hsL := hoL11.solid
            rw [hL.out] at hsL
            have hjL : j < L.length := by rw [hL.out]; omega
            have hps := hi0 (hoL11.rd.solid (by omega)).1
            clear hs10 hb11 hrR10 hr10 hk11 hC2
            go_wp2_with (refine a0y rfl _ _ _ rfl 3 tyN _ _ _ _ hoL11 j hjL _ ?_ rfl rfl ?_; omega; intro w12 ho12 hg12 hb12)
            rw [Int.toNat_natCast] at ho12
            have hz12 := hg12.size
            go_roundw
            case rel => exact ⟨j, R % b, _, p11, c11, rfl, rfl, by omega, (by show (List.set _ _ _).length = _; rw [List.length_set]; exact hL.out), hr11.written hg12 (fun h0 h1 => by have := hk12 h0; have := hp1l h1; omega) hps.out, hl11, hk12, ho12, hbw11.trans hb12, Nat.le_trans hsz11 hz12, HS⟩
            case measure => first | (simp [intOf]; done) | (simp [intOf]; omega)
          · have hC2 : 1 ≤ cmpN (b * d) R := by rw [m0r (by omega)]; omega
            have hd1 : qd ≤ d - 1 ∧ 1 ≤ d := by
             have : qd ≠ d := by
              intro h
              have h1 := Nat.div_mul_le_self R b
              rw [← HQD.out, h, Nat.mul_comm] at h1
              exact hle h1
             omega
            obtain ⟨hd3, hd4⟩ := hd1
            have ed : (d : Int) - 1 = ((d - 1 : Nat) : Int) := by omega
            clear hle
            go_wp2_with fail
            go_roundg (d - 1)
            case measure => omega
            case rel => exact ⟨d - 1, rfl, rfl, rfl, hd3, by omega, hs10⟩
  · obtain rfl : k = 0 := by omega
    obtain ⟨hv, hm⟩ := HR.out.1.done HA.out
    have HM := hi0 hm
    have HV := hi0 hv
    have HLB := hi0 HR.out.1.1
    clear hv hm
    go_wp2_with fail
    refine (d0z p1 xs.length c1 L _ hoL.rd hL.out.symm (by rw [hL.out]; exact hL.out ▸ hoL.le_cap) HLB.out (by rw [hL.out]; omega)).mono ?_
    rintro e w3 ⟨rfl, rfl⟩
    rw [HV.out]
    go_wp2_with fail
    go_ret2
    have ht := b0c a0e L HLB.out
    have ho3 := hoL.take (dig B16 (val B16 L)).length
    rw [ht, HV.out] at ho3
    rw [← HM.out]
    exact ⟨p1, _, pr, _, rfl, ho3.rd, Nat.le_refl _, j0a ho3, hrr, hrc, fun h => Nat.le_trans hsz1 (hrb h), hbL⟩
theorem i0h (p q : OA) (n m c e0 : Nat) (a b : Nat) (w : World) (hp : Rd w .i64 p (dig B16 a)) (hq : Rd w .i64 q (dig B16 b)) (hn : n = (dig B16 a).length) (hm : m = (dig B16 b).length)
 (hl : (dig B16 a).length ≤ 100000000) (hl2 : (dig B16 b).length ≤ 100000000) (hb : 0 < b) :
 Calls Tryz.prog 71 #[.slice p n c, .slice q m e0] w (y0q w .i64 (dig B16 (a / b)) (dig B16 (a % b))) := by
 by_cases h1 : (dig B16 b).length = 1
 · obtain ⟨h2, h3⟩ := q0l a0e h1
   rw [h1] at hm
   rw [h0l a0e h2 h3] at hq
   exact p0h p q n m c e0 a b w hp hq hn hm (by omega) h2 h3
 · have h0 : (dig B16 b).length ≠ 0 := by
    have := a0f a0e b
    omega
   exact w0p p q n m c e0 a b ((dig B16 b).length - 2) w hp hq hn hm hl hl2 (by omega)
instance decDv : DecidableEq Dv := fun a b => decidable_of_iff (a.neg = b.neg ∧ a.m = b.m ∧ a.e = b.e) ⟨fun h => Dv.ext' h.1 h.2.1 h.2.2, fun h => by subst h; exact ⟨rfl, rfl, rfl⟩⟩
structure InF (w : World) (base : Nat) (a : Rw) : Prop where
 rd : Rd w .i64 a.p (dig B16 a.m)
 cap : (dig B16 a.m).length ≤ a.c
 len : (dig B16 a.m).length ≤ 1000000
 lo : -1000000 ≤ a.e
 hi : a.e ≤ 1000000
 at_ : 0 < (dig B16 a.m).length → base ≤ blk a.p
theorem InF.past {w w' : World} {base : Nat} {a : Rw} (h : InF w base a) (hb : Below w.heap.size w w') : InF w' base a := ⟨h.rd.past hb, h.cap, h.len, h.lo, h.hi, h.at_⟩
theorem InF.drew {w : World} {base : Nat} {a : Rw} (h : InF w base a) : InF w.drew base a := ⟨h.rd.drew, h.cap, h.len, h.lo, h.hi, h.at_⟩
theorem InF.mono {w : World} {base base' : Nat} {a : Rw} (h : InF w base a) (hb : base' ≤ base) : InF w base' a := ⟨h.rd, h.cap, h.len, h.lo, h.hi, fun k => Nat.le_trans hb (h.at_ k)⟩
theorem InF.only {w w' : World} {base k : Nat} {a : Rw} (h : InF w base a) (hb : Only k w w') (hne : 0 < (dig B16 a.m).length → blk a.p ≠ k) : InF w' base a := ⟨h.rd.only hb hne, h.cap, h.len, h.lo, h.hi, h.at_⟩
theorem InF.lt {w : World} {base : Nat} {a : Rw} (h : InF w base a) : 0 < (dig B16 a.m).length → blk a.p < w.heap.size := fun k => h.rd.lt k
def GRf (w : World) (xs : List Nat) (en : Ending) (w' : World) : Prop :=
 ∃ p c, en = .returned (.slice p xs.length c) ∧ Rf w' w.heap.size p c xs ∧ Below w.heap.size w w'
theorem e0n.grf {w w' : World} {xs : List Nat} {en : Ending} (h : e0n w .i64 xs en w') : GRf w xs en w' := by
 obtain ⟨p, c, h1, h2, h3, h4, h5⟩ := h
 exact ⟨p, c, h1, a1b h2 h3 h4, h5⟩
def GNf (w : World) (base : Nat) (d : Dv) (en : Ending) (w' : World) : Prop :=
 ∃ p c, en = .returned (.agg #[.bool d.neg, .slice p (dig B16 d.m).length c, .int .i64 d.e]) ∧ Rf w' base p c (dig B16 d.m) ∧ Below w.heap.size w w'
theorem u1m (N : Int) (n : Nat) (h : N = n) (hn : n ≤ 9223372036854775807) (w : World) : Calls Tryz.prog 122 #[.int .i64 N] w (GRf w (dig B16 n)) := by
 subst h; exact (k0y n w hn).mono fun _ _ => e0n.grf
theorem d1b (N : Int) (n : Nat) (h : N = n) (hn : n ≤ 1000000000) (w : World) : Calls Tryz.prog 22 #[.int .i64 N] w (GRf w (dig B16 (2 ^ n))) := by
 subst h; exact (p0k n w hn).mono fun _ _ => e0n.grf
theorem h1r (p q : OA) (n m c d : Nat) (a b x : Nat) (w : World) (hp : Rd w .i64 p (dig B16 a)) (hq : Rd w .i64 q (dig B16 b)) (hn : n = (dig B16 a).length) (hm : m = (dig B16 b).length)
 (hl : (dig B16 a).length ≤ 100000000) (hl2 : (dig B16 b).length ≤ 100000000) (h : a + b = x) :
 Calls Tryz.prog 26 #[.slice p n c, .slice q m d] w (GRf w (dig B16 x)) := by
 subst h; exact (k0x p q n m c d a b w hp hq hn hm (by omega)).mono fun _ _ => e0n.grf
theorem r0v (p q : OA) (n m c d : Nat) (a b x : Nat) (w : World) (hp : Rd w .i64 p (dig B16 a)) (hq : Rd w .i64 q (dig B16 b)) (hn : n = (dig B16 a).length) (hm : m = (dig B16 b).length)
 (hl : (dig B16 a).length ≤ 100000000) (hl2 : (dig B16 b).length ≤ 100000000) (h : a * b = x) :
 Calls Tryz.prog 64 #[.slice p n c, .slice q m d] w (GRf w (dig B16 x)) := by
 subst h; exact (g0n p q n m c d a b w hp hq hn hm (by omega)).mono fun _ _ => e0n.grf
theorem t1g (p q : OA) (n m c d : Nat) (a b x : Nat) (w : World) (hp : Rd w .i64 p (dig B16 a)) (hq : Rd w .i64 q (dig B16 b)) (hn : n = (dig B16 a).length) (hm : m = (dig B16 b).length)
 (hl : (dig B16 a).length ≤ 100000000) (hab : b ≤ a) (h : a - b = x) :
 Calls Tryz.prog 123 #[.slice p n c, .slice q m d] w (GRf w (dig B16 x)) := by
 subst h; exact (i0g p q n m c d a b w hp hq hn hm (by omega) hab).mono fun _ _ => e0n.grf
theorem rup (p : OA) (n c : Nat) (a N x : Nat) (M : Int) (w : World) (hp : Rd w .i64 p (dig B16 a)) (hn : n = (dig B16 a).length) (hl : (dig B16 a).length ≤ 100000000) (hN : N ≤ 1000000000) (hM : M = N) (h : a * 2 ^ N = x) :
 Calls Tryz.prog 116 #[.slice p n c, .int .i64 M] w (GRf w (dig B16 x)) := by
 subst h hM; exact (j0e p n c a N w hp hn hl hN).mono fun _ _ => e0n.grf
theorem t1h {w w' : World} {d : Dv} {en : Ending} (h : p0f w (fun _ => False) d en w') : GNf w w.heap.size d en w' := by
 obtain ⟨p, c, h1, h2, h3, h4, h5⟩ := h
 exact ⟨p, c, h1, t1v h2 h3 h4, h5⟩
structure FitR (d : Dv) : Prop where
 len : (dig B16 d.m).length ≤ 1000000
 lo : -1000000 ≤ d.e
 hi : d.e ≤ 1000000
theorem u1n (a b : Dv) (p q : OA) (c c' : Nat) (w : World) (hp : Rd w .i64 p (dig B16 a.m)) (hq : Rd w .i64 q (dig B16 b.m)) (hc : (dig B16 b.m).length ≤ c') (fa : FitR a) (fb : FitR b) :
 Calls Tryz.prog 33 #[.agg #[.bool a.neg, .slice p (dig B16 a.m).length c, .int .i64 a.e], .agg #[.bool b.neg, .slice q (dig B16 b.m).length c', .int .i64 b.e]] w fun en w' => en = .returned (.int .i64 (rCmp a b)) ∧ Below w.heap.size w w' :=
 y0x a.neg b.neg p q _ c _ c' a.e b.e a.m b.m w hp hq rfl rfl hc fa.len fb.len ⟨fa.lo, fa.hi⟩ ⟨fb.lo, fb.hi⟩
theorem m0f (g : Bool) (p : OA) (n c : Nat) (e : Int) (m : Nat) (d : Dv) (w : World) (hp : Rd w .i64 p (dig B16 m)) (hn : n = (dig B16 m).length) (hl : (dig B16 m).length ≤ 1000000) (he : -1000000 ≤ e ∧ e ≤ 1000000) (h : bare ⟨g, m, e⟩ = d) :
 Calls Tryz.prog 24 #[.agg #[.bool g, .slice p n c, .int .i64 e]] w (GNf w w.heap.size d) := by
 subst h
 exact (g0o g p n c e m w hp hn (by omega) (by omega)).mono fun _ _ => t1h
theorem f0y (s e f d l g k : Int) (w : World) : Calls Tryz.prog 62 #[.int .i64 s, .int .i64 e, .int .i64 f, .int .i64 d, .int .i64 l, .int .i64 g, .int .i64 k] w
 fun en w' => en = .returned (.agg #[.int .i64 s, .int .i64 e, .int .i64 f, .int .i64 2, .int .i64 d, .int .i64 l, .int .i64 g, .bool (k == 1), .int .i64 k]) ∧ Below w.heap.size w w' := by
 have I := Inv.start w [] True.intro
 refine a0g [.v (.int .i64 s), .v (.int .i64 e), .v (.int .i64 f), .v (.int .i64 d), .v (.int .i64 l), .v (.int .i64 g), .v (.int .i64 k)] I Tryz.func62 ?_
 exact zrb I
theorem g0p (n : Int) (hn : IsFm n) (w : World) : Calls Tryz.prog 19 #[.int .i64 n] w
 fun e w' => e = .returned (.tuple #[.agg #[.int .i64 (((fmt n).size : Nat) : Int), .int .i64 (((fmt n).E : Nat) : Int), .int .i64 (((fmt n).F : Nat) : Int), .int .i64 (fmt n).g.rad, .int .i64 (fmt n).g.digs, .int .i64 (fmt n).g.lo, .int .i64 (fmt n).g.hi, .bool (fmt n).g.grad, .int .i64 (((fmt n).fam : Nat) : Int)], .bool true]) ∧ Below w.heap.size w w' := by
 rcases l0u hn with rfl | rfl | rfl | rfl | rfl | rfl | rfl | rfl
 · have I := Inv.start w [] True.intro
   refine a0g [.v (.int .i64 1)] I Tryz.func19 ?_
   refine zq I (fun Al W I => f0y 4 8 23 24 (-149) 104 1 W) fun Al W I => zret I (v := fun Al => .tuple #[.agg #[vI 4, vI 8, vI 23, vI 2, vI 24, vI (-149), vI 104, .bool true, vI 1], .bool true]) fun Al W I => ⟨by kernel_rfl, I.below⟩
 · have I := Inv.start w [] True.intro
   refine a0g [.v (.int .i64 2)] I Tryz.func19 ?_
   refine zq I (fun Al W I => f0y 8 11 52 53 (-1074) 971 1 W) fun Al W I => zret I (v := fun Al => .tuple #[.agg #[vI 8, vI 11, vI 52, vI 2, vI 53, vI (-1074), vI 971, .bool true, vI 1], .bool true]) fun Al W I => ⟨by kernel_rfl, I.below⟩
 · have I := Inv.start w [] True.intro
   refine a0g [.v (.int .i64 3)] I Tryz.func19 ?_
   refine zq I (fun Al W I => f0y 10 15 64 64 (-16445) 16320 1 W) fun Al W I => zret I (v := fun Al => .tuple #[.agg #[vI 10, vI 15, vI 64, vI 2, vI 64, vI (-16445), vI 16320, .bool true, vI 1], .bool true]) fun Al W I => ⟨by kernel_rfl, I.below⟩
 · have I := Inv.start w [] True.intro
   refine a0g [.v (.int .i64 4)] I Tryz.func19 ?_
   exact zret I (v := fun Al => .tuple #[.agg #[vI 4, vI 7, vI 24, vI 16, vI 6, vI (-70), vI 57, .bool false, vI 2], .bool true]) fun Al W I => ⟨by kernel_rfl, I.below⟩
 · have I := Inv.start w [] True.intro
   refine a0g [.v (.int .i64 5)] I Tryz.func19 ?_
   exact zret I (v := fun Al => .tuple #[.agg #[vI 8, vI 7, vI 56, vI 16, vI 14, vI (-78), vI 49, .bool false, vI 2], .bool true]) fun Al W I => ⟨by kernel_rfl, I.below⟩
 · have I := Inv.start w [] True.intro
   refine a0g [.v (.int .i64 6)] I Tryz.func19 ?_
   refine zq I (fun Al W I => f0y 4 8 23 24 (-151) 103 3 W) fun Al W I => zret I (v := fun Al => .tuple #[.agg #[vI 4, vI 8, vI 23, vI 2, vI 24, vI (-151), vI 103, .bool false, vI 3], .bool true]) fun Al W I => ⟨by kernel_rfl, I.below⟩
 · have I := Inv.start w [] True.intro
   refine a0g [.v (.int .i64 7)] I Tryz.func19 ?_
   refine zq I (fun Al W I => f0y 8 8 55 56 (-183) 71 3 W) fun Al W I => zret I (v := fun Al => .tuple #[.agg #[vI 8, vI 8, vI 55, vI 2, vI 56, vI (-183), vI 71, .bool false, vI 3], .bool true]) fun Al W I => ⟨by kernel_rfl, I.below⟩
 · have I := Inv.start w [] True.intro
   refine a0g [.v (.int .i64 8)] I Tryz.func19 ?_
   refine zq I (fun Al W I => f0y 8 11 52 53 (-1076) 970 3 W) fun Al W I => zret I (v := fun Al => .tuple #[.agg #[vI 8, vI 11, vI 52, vI 2, vI 53, vI (-1076), vI 970, .bool false, vI 3], .bool true]) fun Al W I => ⟨by kernel_rfl, I.below⟩
theorem m0g (n : Int) (hn : ¬ IsFm n) (w : World) : Calls Tryz.prog 19 #[.int .i64 n] w
 fun e w' => e = .returned (.tuple #[.agg #[.int .i64 (((fmt n).size : Nat) : Int), .int .i64 (((fmt n).E : Nat) : Int), .int .i64 (((fmt n).F : Nat) : Int), .int .i64 (fmt n).g.rad, .int .i64 (fmt n).g.digs, .int .i64 (fmt n).g.lo, .int .i64 (fmt n).g.hi, .bool (fmt n).g.grad, .int .i64 (((fmt n).fam : Nat) : Int)], .bool false]) ∧ Below w.heap.size w w' := by
 rw [u0e hn]
 unfold IsFm at hn
 have I := Inv.start w [] True.intro
 refine a0g [.v (.int .i64 n)] I Tryz.func19 ?_
 refine zb I 7 (n == 1) (false) (bFn (by omega)) fun Al W I => zb I 11 (n == 2) (false) (bFn (by omega)) fun Al W I => zb I 15 (n == 3) (false) (bFn (by omega)) fun Al W I => zb I 19 (n == 4) (false) (bFn (by omega)) fun Al W I => zb I 23 (n == 5) (false) (bFn (by omega)) fun Al W I => zb I 27 (n == 6) (false) (bFn (by omega)) fun Al W I => zb I 31 (n == 7) (false) (bFn (by omega)) fun Al W I => zb I 35 (n == 8) (false) (bFn (by omega)) fun Al W I => zret I (v := fun Al => .tuple #[.agg #[vI 0, vI 0, vI 0, vI 0, vI 0, vI 0, vI 0, .bool false, vI 0], .bool false]) fun Al W I => ⟨by kernel_rfl, I.below⟩
theorem b0w (n : Int) (w : World) : Calls Tryz.prog 19 #[.int .i64 n] w
 fun e w' => e = .returned (.tuple #[.agg #[.int .i64 (((fmt n).size : Nat) : Int), .int .i64 (((fmt n).E : Nat) : Int), .int .i64 (((fmt n).F : Nat) : Int), .int .i64 (fmt n).g.rad, .int .i64 (fmt n).g.digs, .int .i64 (fmt n).g.lo, .int .i64 (fmt n).g.hi, .bool (fmt n).g.grad, .int .i64 (((fmt n).fam : Nat) : Int)], .bool (decide (IsFm n))]) ∧ Below w.heap.size w w' := by
 by_cases hn : IsFm n
 · rw [decide_eq_true hn]; exact g0p n hn w
 · rw [decide_eq_false hn]; exact m0g n hn w
theorem z0e (n : Int) (s : ByteArray) (w : World) : Calls Tryz.prog 5 #[.int .i64 n, .string s] w
 fun e w' => e = .returned (.int .i64 (b0m n s)) ∧ Below w.heap.size w w' := by
 by_cases hn : IsFm n
 · have HF := fun W => hi0 (g0p n hn W)
   by_cases hs : s.size = (fmt n).size
   · rw [b0l.2 ⟨hn, hs⟩]
     generalize fmt n = f at *
     have I := Inv.start w [] True.intro
     refine a0g [.v (.int .i64 n), .v (.string s)] I Tryz.func5 ?_
     refine zq I (fun Al W I => (HF W).out) fun Al W I => zb I 18 ((s.size : Int) != (f.size : Int)) (false) (by simp [hs]) fun Al W I => zrb I
   · rw [show b0m n s = 1 by unfold b0m; rw [if_pos hn, if_neg hs]]
     generalize fmt n = f at *
     have I := Inv.start w [] True.intro
     refine a0g [.v (.int .i64 n), .v (.string s)] I Tryz.func5 ?_
     refine zq I (fun Al W I => (HF W).out) fun Al W I => zb I 18 ((s.size : Int) != (f.size : Int)) (true) (bne_iff_ne.2 (fun h => hs (by omega))) fun Al W I => zrb I
 · have HF := fun W => hi0 (m0g n hn W)
   rw [show b0m n s = 6 by unfold b0m; rw [if_neg hn]]
   generalize fmt n = f at *
   have I := Inv.start w [] True.intro
   refine a0g [.v (.int .i64 n), .v (.string s)] I Tryz.func5 ?_
   refine zq I (fun Al W I => (HF W).out) fun Al W I => zrb I
theorem n1s {n : Int} (h : IsFm n) : (fmt n).ext = decide (n = 3) := by
 rcases l0u h with rfl | rfl | rfl | rfl | rfl | rfl | rfl | rfl <;> rfl
theorem w0q (n : Int) (i : Nat) (w : World) (hn : IsFm n) (hi : i < (fmt n).size) : Calls Tryz.prog 63 #[.int .i64 n, .int .i64 (i : Int)] w
 fun e w' => e = .returned (.int .i64 ((plc (fmt n).ord (fmt n).size i : Nat) : Int)) ∧ Below w.heap.size w w' := by
 have HF := fun W => hi0 (g0p n hn W)
 have G := b0j hn
 have z1 := G.sz
 have he := n1s hn
 generalize fmt n = f at *
 by_cases h3 : n = 3
 · rw [decide_eq_true h3] at he
   have hp : ((plc f.ord f.size i : Nat) : Int) = (f.size : Int) - 1 - i := by unfold plc Fm.ord; rw [he, if_pos rfl, if_pos rfl]; omega
   rw [hp]
   have I := Inv.start w [] True.intro
   refine a0g [.v (.int .i64 n), .v (.int .i64 (i : Int))] I Tryz.func63 ?_
   refine zq I (fun Al W I => (HF W).out) fun Al W I => zb I 14 (n == 3) (true) (beq_iff_eq.2 h3) fun Al W I => zi I 17 .i64 ((f.size : Int) - 1) ((f.size : Int) - 1) (iwo) fun Al W I => zi I 19 .i64 (((f.size : Int) - 1) - (i : Int)) (((f.size : Int) - 1) - (i : Int)) (iwo) fun Al W I => zrb I
 · rw [decide_eq_false h3] at he
   by_cases hf : f.fam = 3
   · have hp : ((plc f.ord f.size i : Nat) : Int) = (i : Int) + 1 - 2 * ((i % 2 : Nat) : Int) := by unfold plc Fm.ord; rw [he, if_neg (show ¬ (false = true) by simp), if_pos hf, if_neg (by omega), if_pos rfl]; omega
     rw [hp]
     have I := Inv.start w [] True.intro
     refine a0g [.v (.int .i64 n), .v (.int .i64 (i : Int))] I Tryz.func63 ?_
     refine zq I (fun Al W I => (HF W).out) fun Al W I => zb I 14 (n == 3) (false) (bFn h3) fun Al W I => zb I 23 ((f.fam : Int) == 3) (true) (beq_iff_eq.2 (by omega)) fun Al W I => zi I 25 .i64 ((i : Int) + 1) ((i : Int) + 1) (iwo) fun Al W I => zbin I 27 _ (fun _ _ _ _ _ => o0u .i64 (i : Int) (2) (((i % 2 : Nat) : Int)) ((show (2 : Int) ≠ 0 by omega)) ((by exact (Int.ofNat_tmod i 2).symm))) fun Al W I => zi I 28 .i64 ((2 : Int) * ((i % 2 : Nat) : Int)) ((2 : Int) * ((i % 2 : Nat) : Int)) (iwo) fun Al W I => zi I 29 .i64 (((i : Int) + 1) - ((2 : Int) * ((i % 2 : Nat) : Int))) (((i : Int) + 1) - ((2 : Int) * ((i % 2 : Nat) : Int))) (iwo) fun Al W I => zrb I
   · have hp : ((plc f.ord f.size i : Nat) : Int) = (i : Int) := by unfold plc Fm.ord; rw [he, if_neg (show ¬ (false = true) by simp), if_neg hf, if_neg (by omega), if_neg (by omega)]
     rw [hp]
     have I := Inv.start w [] True.intro
     refine a0g [.v (.int .i64 n), .v (.int .i64 (i : Int))] I Tryz.func63 ?_
     refine zq I (fun Al W I => (HF W).out) fun Al W I => zb I 14 (n == 3) (false) (bFn h3) fun Al W I => zb I 23 ((f.fam : Int) == 3) (false) (bFn (by omega)) fun Al W I => zrb I
theorem b1g (a N n : Nat) (h : (dig B16 a).length ≤ n) : (dig B16 (a * 2 ^ N)).length ≤ n + (N / 16 + 1) := by
 refine Nat.le_trans (a0x a0e a (2 ^ N)) ?_
 rw [n0m]; omega
theorem r0w {a : Nat} {n : Int} (h : (dig B16 a).length ≤ 2000000) (hn : -10000000 ≤ n ∧ n ≤ 10000000) : (dig B16 (numP a n)).length ≤ 2700000 := by
 have := b1g a n.toNat _ h; unfold numP; omega
theorem r0x {a : Nat} {n : Int} (h : (dig B16 a).length ≤ 2000000) (hn : -10000000 ≤ n ∧ n ≤ 10000000) : (dig B16 (denP a n)).length ≤ 2700000 := by
 have := b1g a (-n).toNat _ h; unfold denP; omega
def q1b (w : World) (q0 : OA) (x y z : Nat) (en : Ending) (w' : World) : Prop :=
 ∃ p c q d r f, en = .returned (.tuple #[.slice p (dig B16 x).length c, .slice q (dig B16 y).length d, .slice r (dig B16 z).length f]) ∧ Rd w' .i64 p (dig B16 x) ∧ (0 < (dig B16 x).length → w.heap.size ≤ blk p) ∧
  Rd w' .i64 q (dig B16 y) ∧ (0 < (dig B16 y).length → w.heap.size ≤ blk q) ∧ Rd w' .i64 r (dig B16 z) ∧ (r = q0 ∨ (0 < (dig B16 z).length → w.heap.size ≤ blk r)) ∧ Below w.heap.size w w'
theorem j0f (g : Bool) (p q : OA) (c d : Nat) (a b : Nat) (x n : Int) (w : World) (hp : Rd w .i64 p (dig B16 a)) (hq : Rd w .i64 q (dig B16 b))
 (hl : (dig B16 a).length ≤ 2000000) (hl2 : (dig B16 b).length ≤ 2000000) (hb : 0 < b) (hn : -10000000 ≤ x - n ∧ x - n ≤ 10000000) (_ : -1000000000 ≤ x ∧ x ≤ 1000000000) :
 Calls Tryz.prog 127 #[.agg #[.bool g, .slice p (dig B16 a).length c, .slice q (dig B16 b).length d, .int .i64 x], .int .i64 n] w (q1b w q (qP a b (x - n)) (rP a b (x - n)) (denP b (x - n))) := by
 have l1 := r0w hl hn
 have l2 := r0x hl2 hn
 have h0 := d0m hb (x - n)
 unfold qP rP
 by_cases h : n ≤ x
 · obtain ⟨N, hN⟩ : ∃ N : Nat, x - n = N := ⟨(x - n).toNat, by omega⟩
   have hNb : N ≤ 10000000 := by omega
   have e1 : denP b (x - n) = b := by rw [hN]; unfold denP; rw [show (-(N : Int)).toNat = 0 by omega, Nat.pow_zero, Nat.mul_one]
   have HN := hi0 (show numP a (x - n) = a * 2 ^ N by rw [hN]; unfold numP; rw [Int.toNat_natCast])
   rw [e1] at l2 h0 ⊢
   generalize numP a (x - n) = X at *
   have HNN := hi0 hN
   clear e1 hN
   go_enter Tryz.func127, Tryz.ntmps127
   go_wp2_with fail
   refine e1g (fun W1 hb1 hz1 Q => ?_)
   replace hp := hp.past hb1
   replace hq := hq.past hb1
   have hs1 := hb1
   obtain ⟨Q_0, Q_1, Q_2, Q_3⟩ := Q.e4
   go_quiet (fail)
   clear Q_0 Q_1 Q_2 Q_3
   have hb2 := below_drewN (Below.refl (W1).heap.size (W1)) nq
   replace Q := Q.past hb2
   replace hp := hp.past hb2
   replace hq := hq.past hb2
   have hs2 := hs1.trans (hb2.mono hs1.size)
   generalize (W1).drewN nq = w2 at *
   have hN := HNN.out
   obtain ⟨Q_0, Q_1, Q_2, Q_3⟩ := Q.e4
   go_wp2_with fail
   clear Q_0 Q_1 Q_2 Q_3
   clear hN
   ((with_reducible refine (j0e p _ c a N _ hp rfl (by omega) (by omega)).mono ?_))
   rintro e3 w3 ⟨p1, c1, rfl, ho1, hc1, hf1, hb3⟩
   replace Q := Q.past hb3
   replace hp := hp.past hb3
   replace hq := hq.past hb3
   have hs3 := hs2.trans (hb3.mono hs2.size)
   rw [← HN.out] at ho1 hf1 ⊢
   obtain ⟨Q_0, Q_1, Q_2, Q_3⟩ := Q.e4
   go_wp2_with fail
   clear Q_0 Q_1 Q_2 Q_3
   ((with_reducible refine (i0h p1 q _ _ c1 d X b _ ho1 hq rfl rfl (by omega) (by omega) h0).mono ?_))
   rintro e4 w4 ⟨p2, c2, q2, d2, rfl, hr2, hc2, hf2, hr3, hc3, hf3, hb4⟩
   replace Q := Q.past hb4
   replace hp := hp.past hb4
   replace hq := hq.past hb4
   replace ho1 := ho1.past hb4
   have hs4 := hs3.trans (hb4.mono hs3.size)
   go_wp2_with fail
   refine bodyPost_ret (v := .tuple #[.slice p2 (dig B16 (X / b)).length c2, .slice q2 (dig B16 (X % b)).length d2, .slice q (dig B16 b).length d]) (by simp [results, Tryz.results127, go_sem]) rfl ?_
   have hz := hs3.size
   exact ⟨p2, c2, q2, d2, q, d, rfl, hr2, fun h => Nat.le_trans hz (hf2 h), hr3, fun h => Nat.le_trans hz (hf3 h), hq, .inl rfl, hs4⟩
 · obtain ⟨N, hN⟩ : ∃ N : Nat, n - x = N := ⟨(n - x).toNat, by omega⟩
   have hNb : N ≤ 10000000 := by omega
   have e1 : numP a (x - n) = a := by unfold numP; rw [show (x - n).toNat = 0 by omega, Nat.pow_zero, Nat.mul_one]
   have HN := hi0 (show denP b (x - n) = b * 2 ^ N by unfold denP; rw [show (-(x - n)).toNat = N by omega])
   rw [e1] at l1 ⊢
   generalize denP b (x - n) = X at *
   have HNN := hi0 hN
   clear e1 hN
   go_enter Tryz.func127, Tryz.ntmps127
   go_wp2_with fail
   refine e1g (fun W1 hb1 hz1 Q => ?_)
   replace hp := hp.past hb1
   replace hq := hq.past hb1
   have hs1 := hb1
   obtain ⟨Q_0, Q_1, Q_2, Q_3⟩ := Q.e4
   go_quiet (fail)
   clear Q_0 Q_1 Q_2 Q_3
   have hb2 := below_drewN (Below.refl (W1).heap.size (W1)) nq
   replace Q := Q.past hb2
   replace hp := hp.past hb2
   replace hq := hq.past hb2
   have hs2 := hs1.trans (hb2.mono hs1.size)
   generalize (W1).drewN nq = w2 at *
   have hN := HNN.out
   obtain ⟨Q_0, Q_1, Q_2, Q_3⟩ := Q.e4
   go_wp2_with fail
   clear Q_0 Q_1 Q_2 Q_3
   clear hN
   ((with_reducible refine (j0e q _ d b N _ hq rfl (by omega) (by omega)).mono ?_))
   rintro e3 w3 ⟨p1, c1, rfl, ho1, hc1, hf1, hb3⟩
   replace Q := Q.past hb3
   replace hp := hp.past hb3
   replace hq := hq.past hb3
   have hs3 := hs2.trans (hb3.mono hs2.size)
   rw [← HN.out] at ho1 hf1 ⊢
   obtain ⟨Q_0, Q_1, Q_2, Q_3⟩ := Q.e4
   go_wp2_with fail
   clear Q_0 Q_1 Q_2 Q_3
   ((with_reducible refine (i0h p p1 _ _ c c1 a X _ hp ho1 rfl rfl (by omega) (by omega) h0).mono ?_))
   rintro e4 w4 ⟨p2, c2, q2, d2, rfl, hr2, hc2, hf2, hr3, hc3, hf3, hb4⟩
   replace Q := Q.past hb4
   replace hp := hp.past hb4
   replace hq := hq.past hb4
   replace ho1 := ho1.past hb4
   have hs4 := hs3.trans (hb4.mono hs3.size)
   go_wp2_with fail
   refine bodyPost_ret (v := .tuple #[.slice p2 (dig B16 (a / X)).length c2, .slice q2 (dig B16 (a % X)).length d2, .slice p1 (dig B16 X).length c1]) (by simp [results, Tryz.results127, go_sem]) rfl ?_
   have hz := hs3.size
   have hz2 := hs2.size
   exact ⟨p2, c2, q2, d2, p1, c1, rfl, hr2, fun h => Nat.le_trans hz (hf2 h), hr3, fun h => Nat.le_trans hz (hf3 h), ho1, .inr fun h => Nat.le_trans hz2 (hf1 h), hs4⟩
def p0t (w : World) (d : Pl) (en : Ending) (w' : World) : Prop :=
 ∃ p c, en = .returned (.agg #[.bool d.neg, .slice p (dig B16 d.d).length c, .int .i64 d.pow, .bool d.exact, .bool d.over, .bool d.under]) ∧ Rd w' .i64 p (dig B16 d.d) ∧ (0 < (dig B16 d.d).length → w.heap.size ≤ blk p) ∧ Below w.heap.size w w'
theorem h1s (g : Gd) : wid g = 1 ∨ wid g = 4 := by unfold wid; split <;> simp
theorem q1c {x : Int} {wd : Nat} (h : wd = 1 ∨ wd = 4) (hx : -800000 ≤ x) : (x + 800000).tdiv wd = (x + 800000) / wd ∧ (800000 : Int).tdiv wd = 800000 / wd ∧ (x + 800000) / wd - 800000 / wd = x / wd := by
 refine ⟨Int.tdiv_eq_ediv_of_nonneg (by omega), Int.tdiv_eq_ediv_of_nonneg (by omega), ?_⟩
 rcases h with rfl | rfl <;> omega
theorem rend {w w' : World} {pf : Pl} {ng xb ov un : Bool} {dd : Nat} {k2 : Int} {p : OA} {c : Nat} (h : pf = ⟨ng, dd, k2, xb, ov, un⟩) (o : Rd w' .i64 p (dig B16 dd) ∧ (0 < (dig B16 dd).length → w.heap.size ≤ blk p)) (hb : Below w.heap.size w w') :
 p0t w pf (.returned (.agg #[.bool ng, .slice p (dig B16 dd).length c, .int .i64 k2, .bool xb, .bool ov, .bool un])) w' := by
 subst h
 exact ⟨p, c, rfl, o.1, o.2, hb⟩
theorem p0u (ng : Bool) (p q : OA) (c d m : Nat) (e : Int) (g : Gd) (way : Int) (w : World) :
 Calls Tryz.prog 73 #[.agg #[.bool ng, .slice p 0 c, .slice q m d, .int .i64 e], .agg #[.int .i64 g.rad, .int .i64 g.digs, .int .i64 g.lo, .int .i64 g.hi, .bool g.grad], .int .i64 way] w (p0t w ⟨false, 0, 0, true, false, false⟩) := by
 have h0 : 0 = (dig B16 0).length := by rw [a0c]; rfl
 have I := Inv.start w [] True.intro
 refine a0g [.v (.agg #[.bool ng, .slice p 0 c, .slice q m d, .int .i64 e]), .v (.agg #[.int .i64 g.rad, .int .i64 g.digs, .int .i64 g.lo, .int .i64 g.hi, .bool g.grad]), .v (.int .i64 way)] I Tryz.func73 ?_
 exact zret I (v := fun Al => .agg #[.bool false, .slice none 0 0, vI 0, .bool true, .bool false, .bool false]) fun Al W I => ⟨none, 0, by rw [← h0], by rw [a0c]; exact Rd.nil _ _ _, (fun h => by rw [← h0] at h; cases h), I.below⟩
end Go.Proofs.YtpgomglbaacmdaaGreatDoor
namespace Go.Slip
open Go.RowKit
/-! ### Lists that are new -/
def rnF (b : Nat) (p : OA) (xs : List Nat) : PF :=
 ⟨fun w => Rd w .i64 p xs ∧ (0 < xs.length → b ≤ blk p), fun a => 0 < xs.length ∧ blk p = a, fun _ _ h hb _ => ⟨h.1.same fun hp => hb _ (h.1.lt hp) ⟨hp, rfl⟩, h.2⟩, fun _ _ h hf => hf.2 ▸ h.1.lt hf.1⟩
section
variable {E : List Nat} {w0 : World} {A : List Nat} {bx bx' : List Box} {fs fs' : List PF} {V W : World} {p q : OA} {c : Nat} {xs ys : List Nat}
theorem Inv.rn (I : Inv E w0 A bx fs W) (r : Rd W .i64 p xs) (hf : 0 < xs.length → V.heap.size ≤ blk p) (hB : ∀ a, Fa A bx a → Fa A bx' a) (J : Inv E w0 A bx' fs' V) : Inv E w0 A bx (rnF w0.heap.size p xs :: fs) W :=
 I.add (rnF w0.heap.size p xs) ⟨r, fun h => Nat.le_trans J.bel.size (hf h)⟩ fun a ha h => by
  have h1 := J.lt a (hB a ha)
  have h2 := hf h.1
  have h3 := h.2
  omega
theorem Inv.rnR (I : Inv E w0 A bx fs W) (o : Rf W V.heap.size p c xs) (hB : ∀ a, Fa A bx a → Fa A bx' a) (J : Inv E w0 A bx' fs' V) : Inv E w0 A bx (rnF w0.heap.size p xs :: fs) W := I.rn o.rd o.at_ hB J
theorem Inv.rdO (I : Inv E w0 A bx fs W) (r : Rd W .i64 p xs) (hf : p = q ∨ (0 < xs.length → V.heap.size ≤ blk p)) (hq : ∀ a, Fa A bx' a → 0 < ys.length → blk q ≠ a) (hy : 0 < ys.length) (hB : ∀ a, Fa A bx a → Fa A bx' a) (J : Inv E w0 A bx' fs' V) : Inv E w0 A bx (rdF .i64 p xs :: fs) W :=
 I.add (rdF .i64 p xs) r fun a ha h => by
  rcases hf with e | hf
  · exact hq a (hB a ha) hy (e ▸ h.2)
  · have h1 := J.lt a (hB a ha)
    have h2 := hf h.1
    have h3 := h.2
    omega
end
end Go.Slip
namespace Go.Proofs.YtpgomglbaacmdaaGreatDoor
open Go.RowKit Go.Slip
theorem tvR : l0n Tryz.prog 26 3 (.int .i64 0) 8 := tyV (by kernel_rfl) (by kernel_rfl) (by omega) rfl rfl
theorem ldR : k0o Tryz.prog 3 := j0l (by kernel_rfl) (by kernel_rfl)
theorem l1q (Y : Nat) : decide (Y = 0) = (((dig B16 Y).length : Int) == 0) := by
 have := a0f a0e Y
 by_cases h0 : Y = 0
 · rw [decide_eq_true h0, h0, a0c]; rfl
 · rw [decide_eq_false h0]; exact (bFn (by omega)).symm
theorem q1d (X : Nat) (h : 0 < (dig B16 X).length) : (((dg (dig B16 X) 0 : Nat) : Int)).tmod 2 = ((X % 2 : Nat) : Int) := by
 have hx0 : 0 < X := by have := a0f a0e X; omega
 rw [show dg (dig B16 X) 0 = X % B16 by rw [c0d a0e hx0]; rfl, show ((2 : Int)) = ((2 : Nat) : Int) from rfl, ← Int.ofNat_tmod]
 unfold B16
 congr 1
 omega
theorem h1t : dig B16 1 = [1] := h0l a0e (by omega) (by unfold B16; omega)
theorem h1u : dig B16 2 = [2] := h0l a0e (by omega) (by unfold B16; omega)
structure t1i (g : Gd) : Prop where
 rad : g.rad = 2 ∨ g.rad = 16
 d1 : 1 ≤ g.digs
 d2 : g.digs ≤ 17000
 l1 : -17000 ≤ g.lo
 l2 : g.lo ≤ 17000
 h1 : -17000 ≤ g.hi
 h2 : g.hi ≤ 17000
 le : g.lo ≤ g.hi
theorem p0v (ng : Bool) (p q : OA) (c d : Nat) (num den : Nat) (e : Int) (g : Gd) (way K : Int) (w : World) (hp : Rd w .i64 p (dig B16 num)) (hq : Rd w .i64 q (dig B16 den))
 (hl : (dig B16 num).length ≤ 20000) (hl2 : (dig B16 den).length ≤ 20000) (hn : 0 < num) (hd : 0 < den) (he : -200000 ≤ e ∧ e ≤ 200000) (G : t1i g) (hw1 : 1 ≤ way) (hw2 : way ≤ 5) (hK : IsK num den e (wid g) g.digs.toNat K) :
 Calls Tryz.prog 73 #[.agg #[.bool ng, .slice p (dig B16 num).length c, .slice q (dig B16 den).length d, .int .i64 e], .agg #[.int .i64 g.rad, .int .i64 g.digs, .int .i64 g.lo, .int .i64 g.hi, .bool g.grad], .int .i64 way] w (p0t w (fitK ng num den e g way K)) := by
 obtain ⟨_, gd1, gd2, gl1, gl2, gh1, gh2, gle⟩ := G
 obtain ⟨pf, hpf⟩ : ∃ pf, fitK ng num den e g way K = pf := ⟨_, rfl⟩
 rw [hpf]
 have HPF := hi0 hpf
 have HWD := fun W => hi0 (c0t g W)
 have wp := b0f g
 have wc0 := h1s g
 obtain ⟨wd, hwd⟩ : ∃ wd, wid g = wd := ⟨_, rfl⟩
 rw [hwd] at wp HWD hK wc0
 have HW := hi0 hwd
 obtain ⟨rad, digs, lo, hi, grad⟩ := g
 simp only at *
 obtain ⟨D, rfl⟩ : ∃ D : Nat, digs = D := ⟨digs.toNat, by omega⟩
 rw [Int.toNat_natCast] at hK
 have hD : 1 ≤ D := by omega
 have hden0 : 0 < (dig B16 den).length := by have := a0f a0e den; omega
 have bn := h0m num
 have bd := h0m den
 obtain ⟨F1, F2⟩ := t0a hn hd e (w := wd) (D := D) (by omega) hD _ rfl
 obtain ⟨x, hx⟩ : ∃ x : Int, (blen num : Int) - blen den + e = x := ⟨_, rfl⟩
 have hxb : -600000 ≤ x ∧ x ≤ 600000 := by omega
 have hxw := i0f (wd := wd) wp.1 hxb
 have N28 := hi0 (show IntKind.i64.wrap ((blen num : Int) - blen den) = (blen num : Int) - blen den from iwo)
 have N31 := hi0 (show IntKind.i64.wrap ((blen num : Int) - blen den + e) = x by rw [iwo, hx])
 rw [hx] at F1 F2
 have hK1 := hK.le hd F1
 have hK2 : K ≤ x / wd - D + 2 := by
  rcases Int.lt_or_le (x / wd - D + 2) K with h | h
  · exact absurd (h0j hd hK.yes (by omega)) F2
  · exact h
 have HK := hi0 hK
 have T18 := hi0 (show (((dig B16 num).length : Int) == 0) = false from bFn (by have := a0f a0e num; omega))
 obtain ⟨f1, f2, f3⟩ := q1c wc0 (show -800000 ≤ x by omega)
 have hq1 := i0f (wd := wd) (x := x + 800000) (B := 1400000) wp.1 (by omega)
 have hq2 := i0f (wd := wd) (x := 800000) (B := 800000) wp.1 (by omega)
 have N35 := hi0 (show IntKind.i64.wrap ((x + 800000).tdiv (wd : Int)) = (x + 800000) / (wd : Int) by rw [f1, iwo])
 have N37 := hi0 (show IntKind.i64.wrap ((800000 : Int).tdiv (wd : Int)) = 800000 / (wd : Int) by rw [f2, iwo])
 have N38 := hi0 (show IntKind.i64.wrap ((x + 800000) / (wd : Int) - 800000 / (wd : Int)) = x / (wd : Int) by rw [f3, iwo])
 clear hpf hwd hx F1 F2 hK wc0 f1 f2 f3 hq1 hq2
 obtain ⟨k0, hk0⟩ : ∃ k0, x / (wd : Int) - D + 2 = k0 := ⟨_, rfl⟩
 have hk0b : -700000 ≤ k0 ∧ k0 ≤ 700000 := by omega
 have hk1' : k0 - 2 ≤ K := by omega
 have hm0 : -669000 ≤ (wd : Int) * k0 ∧ (wd : Int) * k0 ≤ 601000 := by
  have h1 := f0j x wd wp.1
  have h2 : (wd : Int) * k0 = wd * (x / wd) - wd * D + wd * 2 := by rw [← hk0]; grind
  have h3 : (wd : Int) * D ≤ 4 * 17000 := Int.mul_le_mul (by omega) (by omega) (by omega) (by omega)
  have h4 : 0 ≤ (wd : Int) * D := Int.mul_nonneg (by omega) (by omega)
  omega
 rw [hk0] at hK2
 obtain ⟨N1, hN1⟩ : ∃ N1 : Nat, N1 = wd * (D - 1) := ⟨_, rfl⟩
 have hN1b : N1 ≤ 68000 := by rw [hN1]; exact Nat.le_trans (Nat.mul_le_mul wp.2 (show D - 1 ≤ 17000 by omega)) (by omega)
 have ND := hi0 (show IntKind.i64.wrap ((D : Int) - 1) = ((D - 1 : Nat) : Int) by rw [iwo]; omega)
 have NN := hi0 (show IntKind.i64.wrap ((wd : Int) * ((D - 1 : Nat) : Int)) = (N1 : Int) by rw [IntWalk.i64_in _ (by rw [← Int.natCast_mul, ← hN1]; omega), ← Int.natCast_mul, ← hN1])
 have N42 := hi0 (show IntKind.i64.wrap (x / (wd : Int) - (D : Int) + 2) = k0 by rw [iwo, hk0])
 have lq : ∀ k : Int, -700000 ≤ (wd : Int) * k ∧ (wd : Int) * k ≤ 700000 → (dig B16 (qP num den (e - wd * k))).length ≤ 2700000 := fun k h => Nat.le_trans (a0j a0e (Nat.div_le_self _ _)) (r0w (by omega) (by omega))
 have lb : ∀ k : Int, -700000 ≤ (wd : Int) * k ∧ (wd : Int) * k ≤ 700000 → blen (qP num den (e - wd * k)) ≤ 50000000 := fun k h => by have := h0m (qP num den (e - wd * k)); have := lq k h; omega
 have lz : ∀ k : Int, -700000 ≤ (wd : Int) * k ∧ (wd : Int) * k ≤ 700000 → (dig B16 (denP den (e - wd * k))).length ≤ 2700000 := fun k h => r0x (by omega) (by omega)
 have HN1 := hi0 hN1
 have N136 : Hid (IntKind.i64.wrap ((wd : Int) * (D : Int)) = ((wd * D : Nat) : Int)) := hi0 (by have hwD : wd * D ≤ 68000 := Nat.le_trans (Nat.mul_le_mul wp.2 (show D ≤ 17000 by omega)) (by omega); rw [IntWalk.i64_in _ (by rw [← Int.natCast_mul]; omega), Int.natCast_mul])
 have hxw2 : -700000 ≤ x / (wd : Int) - D ∧ x / (wd : Int) - D ≤ 700000 := by omega
 have hlo := j0d (k := lo) wp.2 (B := 17000) ⟨by omega, by omega⟩
 have hmk : ∀ kk : Int, kk ≤ k0 → K ≤ kk → -680000 ≤ (wd : Int) * kk ∧ (wd : Int) * kk ≤ 680000 := fun kk h1 h2 => by
  have hkd : kk = k0 ∨ kk = k0 - 1 ∨ kk = k0 - 2 := by omega
  rcases hkd with rfl | rfl | rfl
  · omega
  · rw [Int.mul_sub]; omega
  · rw [Int.mul_sub]; omega
 have hwd0 : (wd : Int) ≠ 0 := by omega
 have two1 : (dig B16 2).length ≤ 1 := by rw [h1u]; decide
 have one1 : (dig B16 1).length ≤ 1 := by rw [h1t]; decide
 clear hk0 hN1
 let aA : Box := ⟨134, [.v (.bool false), .v (.slice none 0 0), .v (.int .i64 0), .v (.bool false), .v (.bool false), .v (.bool false)], false⟩
 let aB : Box := ⟨78, [.v (.bool ng), .v (.slice p (dig B16 num).length c), .v (.slice q (dig B16 den).length d), .v (.int .i64 e)], false⟩
 let aC : Box := ⟨44, [.v (.int .i64 rad), .v (.int .i64 (D : Int)), .v (.int .i64 lo), .v (.int .i64 hi), .v (.bool grad)], false⟩
 let aD : SV := .v (.agg #[.bool ng, .slice p (dig B16 num).length c, .slice q (dig B16 den).length d, .int .i64 e])
 let aE : SV := .v (.agg #[.int .i64 rad, .int .i64 (D : Int), .int .i64 lo, .int .i64 hi, .bool grad])
 have I := Inv.start w [rdF .i64 p (dig B16 num), rdF .i64 q (dig B16 den)] ⟨hp, hq, True.intro⟩
 refine a0g [.v (.agg #[.bool ng, .slice p (dig B16 num).length c, .slice q (dig B16 den).length d, .int .i64 e]), .v (.agg #[.int .i64 rad, .int .i64 (D : Int), .int .i64 lo, .int .i64 hi, .bool grad]), .v (.int .i64 way)] I Tryz.func73 ?_
 refine zb I 18 ((((dig B16 num).length : Nat) : Int) == 0) (false) (T18.out) fun Al W I => zq I (fun Al W I => (HWD W).out) fun Al W I => zd [] I fun Al W I => zk [0, 1, 3, 4, 7, 8] I fun I => zo 2 I fun I => zq I (fun Al W I => have hzW := I.bel.size; n0u (d0a p _ c num W I.fa.1 rfl (by omega))) fun Al W I => zo 5 I fun I => zq I (fun Al W I => have hzW := I.bel.size; n0u (d0a q _ d den W I.fa.2.1 rfl (by omega))) fun Al W I => zki 6 I .i64 (((blen num : Nat) : Int) - ((blen den : Nat) : Int)) (((blen num : Int) - blen den)) (N28.out) fun I => zki 9 I .i64 (((blen num : Int) - blen den) + e) (x) (N31.out) fun I => zk [10] I fun I => zd [] I fun Al W I => zk [0] I fun I => zki 1 I .i64 (x + 800000) ((x + 800000)) (iwo) fun I => zk [2] I fun I => s0w 3 I _ (fun _ _ _ _ => h0z .i64 ((x + 800000)) (wd : Int) (((x + 800000) / (wd : Int))) (hwd0) (N35.out)) fun I => zk [4] I fun I => s0w 5 I _ (fun _ _ _ _ => h0z .i64 (800000) (wd : Int) ((800000 / (wd : Int))) (hwd0) (N37.out)) fun I => zki 6 I .i64 (((x + 800000) / (wd : Int)) - (800000 / (wd : Int))) ((x / (wd : Int))) (N38.out) fun I => zk [7, 8] I fun I => zki 9 I .i64 ((x / (wd : Int)) - (D : Int)) ((x / (wd : Int) - D)) (iwo) fun I => zki 10 I .i64 ((x / (wd : Int) - D) + 2) (k0) (N42.out) fun I => zk [11] I fun I => zi I 47 .i64 ((wd : Int) * k0) ((wd * k0)) (iwo) fun Al W I => zg I (fun Al W I => have hzW := I.bel.size; j0f ng p q c d num den e (wd * k0) W I.fa.1 I.fa.2.1 (by omega) (by omega) hd (by omega) (by omega)) fun Al V Iv _ hB _ kz => ?_
 rintro _ W ⟨p48, c48, q48, d48, r48, f48, rfl, a48, h48, b48, h48b, z48, h48c, hb⟩
 refine ⟨_, rfl, kz _ _ hb fun I => ?_⟩
 have I := I.rn a48 h48 (hB _) Iv
 have I := I.rn b48 h48b (hB _) Iv
 have I := I.rdO z48 h48c (fun a ha h0 e => (Iv.far a ha).2.1 ⟨h0, e⟩) hden0 (hB _) Iv
 refine g0e I (fun gk fr bx gs => ∃ (U900 : Nat → Value) (kk : Int) (p2 : OA) (c2 : Nat) (q2 : OA) (d2 : Nat) (r2 : OA) (f2 : Nat), fr = (aD :: aE :: .v (.int .i64 way) :: .p 0 0 :: .p 1 0 :: .v undef :: .p 2 0 :: .v (.int .i64 (wd : Int)) :: .v (.int .i64 x) :: .v (.int .i64 kk) :: .v (.slice p2 (dig B16 (qP num den (e - wd * kk))).length c2) :: .v (.slice q2 (dig B16 (rP num den (e - wd * kk))).length d2) :: .v (.slice r2 (dig B16 (denP den (e - wd * kk))).length f2) :: su 2 (sw U900 15 3 (.v (.bool false) :: sw U900 19 66 (.v undef :: sw U900 86 41 (.v undef :: sw U900 128 9 (.v undef :: sw U900 138 20 (.v undef :: sw U900 159 2 [])))))) : List SV) ∧ bx = [aB, aC, aA] ∧ gs = [rdF .i64 r2 (dig B16 (denP den (e - wd * kk))), rnF w.heap.size q2 (dig B16 (rP num den (e - wd * kk))), rnF w.heap.size p2 (dig B16 (qP num den (e - wd * kk))), rdF .i64 p (dig B16 num), rdF .i64 q (dig B16 den)] ∧ ((gk : Int) = kk - K) ∧ (kk ≤ k0) ∧ (K ≤ kk)) ((k0 - K).toNat) (fun Al W U I => ⟨_, ⟨U, k0, p48, c48, q48, d48, r48, f48, rfl, rfl, rfl, by omega, by omega, by omega⟩, I.pick [0, 1, 2, 3, 4]⟩) ?_
 rintro J0 gk0 _ _ _ ⟨U900, kk, p2, c2, q2, d2, r2, f2, rfl, rfl, rfl, hgk, hkk, hKk⟩ hJ0 Al W I
 have hmk1 := hmk kk hkk hKk
 have lq1 := lq kk (by omega)
 have lb1 := lb kk (by omega)
 by_cases hfull : d0x num den e wd D kk
 · refine zd [] I fun Al W I => zk [0, 2, 3, 4] I fun I => zki 5 I .i64 ((D : Int) - 1) (((D - 1 : Nat) : Int)) (ND.out) fun I => zki 6 I .i64 ((wd : Int) * ((D - 1 : Nat) : Int)) ((N1 : Int)) (NN.out) fun I => zki 7 I .i64 ((N1 : Int) + 1) ((N1 + 1)) (iwo) fun I => zo 1 I fun I => zq I (fun Al W I => have hzW := I.bel.size; n0u (d0a p2 _ c2 _ W I.fa.2.2.1.1 rfl (by omega))) fun Al W I => zkb 8 I (decide (((blen (qP num den (e - wd * kk)) : Nat) : Int) < (N1 + 1))) (false) (dFa (by have h := hfull; unfold d0x at h; rw [← HN1.out] at h; have := (a0u (qP num den (e - wd * kk)) N1); omega)) fun I => ?_
   have hkK : kk = K := by have := HK.out.le hd hfull; omega
   obtain ⟨un, hun⟩ : ∃ un, decide (kk < lo) = un := ⟨_, rfl⟩
   refine zb I 78 (decide (kk < lo)) (un) (hun) fun Al W I => zcut I (some 3000011) (fun fr bx gs => ∃ (U1 : Nat → Value) (b1 : Bool), fr = (aD :: aE :: .v (vI way) :: .p 0 0 :: .p 1 0 :: vu :: .p 2 0 :: .v (vI (wd : Int)) :: .v (vI x) :: .v (vI kk) :: .v (vS (dig B16 (qP num den (e - wd * kk))) p2 c2) :: .v (vS (dig B16 (rP num den (e - wd * kk))) q2 d2) :: .v (vS (dig B16 (denP den (e - wd * kk))) r2 f2) :: .p 3 0 :: vu :: sw U1 15 3 (.v (.bool false) :: sw U1 19 41 (.v (.bool false) :: sw U1 61 24 (.v (.bool b1) :: sw U1 86 41 (vu :: sw U1 128 9 (vu :: sw U1 138 20 (vu :: sw U1 159 2 [])))))) : List SV) ∧ bx = [aB, aC, aA, ⟨134, [.v (.bool ng), .v (.slice none 0 0), .v (vI kk), .v (.bool false), .v (.bool false), .v (.bool un)], false⟩] ∧ gs = [rdF .i64 r2 (dig B16 (denP den (e - wd * kk))), rnF w.heap.size q2 (dig B16 (rP num den (e - wd * kk))), rnF w.heap.size p2 (dig B16 (qP num den (e - wd * kk))), rdF .i64 p (dig B16 num), rdF .i64 q (dig B16 den)] ∧ (b1 = (un && grad))) ?_ ?_
   · intro J hJ Al W I
     rcases bTF (un) with f82 | f82
     · refine zb I 82 (un) (true) (f82) fun Al W I => a0i I J fun Al W U I => hJ _ _ _ _ _ ⟨U, grad, rfl, rfl, rfl, by first | (rw [f82, Bool.true_and]; done) | rw [f82, Bool.false_and]⟩ (I.pick [0, 1, 2, 3, 4])
     refine zb I 82 (un) (false) (f82) fun Al W I => a0i I J fun Al W U I => hJ _ _ _ _ _ ⟨U, false, rfl, rfl, rfl, by first | (rw [f82, Bool.true_and]; done) | rw [f82, Bool.false_and]⟩ (I.pick [0, 1, 2, 3, 4])
   rintro _ _ _ ⟨U1, b1, rfl, rfl, rfl, hb1⟩ Al W I
   refine zcut I (some 2000085) (fun fr bx gs => ∃ (U2 : Nat → Value) (kj : Int) (p3 : OA) (c3 : Nat) (q3 : OA) (d3 : Nat) (r3 : OA) (f3 : Nat) (X : Nat) (Y : Nat) (Z : Nat), fr = (aD :: aE :: .v (vI way) :: .p 0 0 :: .p 1 0 :: vu :: .p 2 0 :: .v (vI (wd : Int)) :: .v (vI x) :: .v (vI kk) :: .v (vS (dig B16 X) p3 c3) :: .v (vS (dig B16 Y) q3 d3) :: .v (vS (dig B16 Z) r3 f3) :: .p 3 0 :: vu :: sw U2 15 3 (.v (.bool false) :: sw U2 19 41 (.v (.bool false) :: sw U2 61 24 (.v (.bool b1) :: sw U2 86 41 (vu :: sw U2 128 9 (vu :: sw U2 138 20 (vu :: sw U2 159 2 [])))))) : List SV) ∧ bx = [aB, aC, aA, ⟨134, [.v (.bool ng), .v (.slice none 0 0), .v (vI kj), .v (.bool false), .v (.bool false), .v (.bool un)], false⟩] ∧ gs = [rdF .i64 r3 (dig B16 Z), rnF w.heap.size q3 (dig B16 Y), rnF w.heap.size p3 (dig B16 X), rdF .i64 p (dig B16 num), rdF .i64 q (dig B16 den)] ∧ (powK ⟨rad, D, lo, hi, grad⟩ kk = kj) ∧ (qP num den (e - wd * kj) = X) ∧ (rP num den (e - wd * kj) = Y) ∧ (denP den (e - wd * kj) = Z) ∧ (-700000 ≤ (wd : Int) * kj ∧ (wd : Int) * kj ≤ 700000 ∧ -800000 ≤ kj ∧ kj ≤ 800000)) ?_ ?_
   · intro J hJ Al W I
     rcases bTF b1 with rfl | rfl
     · refine zi I 94 .i64 ((wd : Int) * lo) ((wd * lo)) (iwo) fun Al W I => zg I (fun Al W I => have hzW := I.bel.size; j0f ng p q c d num den e (wd * lo) W I.fa.2.2.2.1 I.fa.2.2.2.2.1 (by omega) (by omega) hd (by omega) (by omega)) fun Al V Iv _ hB _ kz => ?_
       rintro _ W ⟨p95, c95, q95, d95, r95, f95, rfl, a95, h95, b95, h95b, z95, h95c, hb⟩
       refine ⟨_, rfl, kz _ _ hb fun I => ?_⟩
       have I := I.rn a95 h95 (hB _) Iv
       have I := I.rn b95 h95b (hB _) Iv
       have I := I.rdO z95 h95c (fun a ha h0 e => (Iv.far a ha).2.2.2.2.1 ⟨h0, e⟩) hden0 (hB _) Iv
       exact a0i I J fun Al W U I => hJ _ _ _ _ _ ⟨U, lo, p95, c95, q95, d95, r95, f95, _, _, _, rfl, rfl, rfl, (by unfold powK; rw [if_pos ⟨by cases un; (simp at hb1); exact oTr hun, by cases un; (simp at hb1); exact hb1.symm⟩]), rfl, rfl, rfl, (by omega)⟩ (I.pick [0, 1, 2, 6, 7])
     exact a0i I J fun Al W U I => hJ _ _ _ _ _ ⟨U, kk, p2, c2, q2, d2, r2, f2, _, _, _, rfl, rfl, rfl, (by unfold powK; rw [if_neg (by rintro ⟨h1, h2⟩; simp only at h1 h2; rw [← hun, decide_eq_true h1, h2] at hb1; cases hb1)]), rfl, rfl, rfl, (by omega)⟩ (I.pick [0, 1, 2, 3, 4])
   rintro _ _ _ ⟨U2, kj, p3, c3, q3, d3, r3, f3, X, Y, Z, rfl, rfl, rfl, hkj, hX, hY, hZ, hmj⟩ Al W I
   have lX : (dig B16 X).length ≤ 2700000 := by rw [← hX]; exact lq kj (by omega)
   have lZ : (dig B16 Z).length ≤ 2700000 := by rw [← hZ]; exact lz kj (by omega)
   have lY : (dig B16 Y).length ≤ 2700000 := by rw [← hY]; exact Nat.le_trans (a0j a0e (Nat.le_of_lt (Nat.mod_lt _ (d0m hd _)))) (by rw [hZ]; exact lZ)
   obtain ⟨xb, hxb⟩ : ∃ xb, (((dig B16 Y).length : Int) == 0) = xb := ⟨_, rfl⟩
   refine zb I 101 ((((dig B16 Y).length : Nat) : Int) == 0) (xb) (hxb) fun Al W I => zcut I (some 3000015) (fun fr bx gs => ∃ (U3 : Nat → Value) (od : Bool), fr = (aD :: aE :: .v (vI way) :: .p 0 0 :: .p 1 0 :: vu :: .p 2 0 :: .v (vI (wd : Int)) :: .v (vI x) :: .v (vI kk) :: .v (vS (dig B16 X) p3 c3) :: .v (vS (dig B16 Y) q3 d3) :: .v (vS (dig B16 Z) r3 f3) :: .p 3 0 :: .v (.bool od) :: sw U3 15 3 (.v (.bool false) :: sw U3 19 41 (.v (.bool false) :: sw U3 61 24 (.v (.bool b1) :: sw U3 86 41 (vu :: sw U3 128 9 (vu :: sw U3 138 20 (vu :: sw U3 159 2 [])))))) : List SV) ∧ bx = [aB, aC, aA, ⟨134, [.v (.bool ng), .v (.slice none 0 0), .v (vI kj), .v (.bool xb), .v (.bool false), .v (.bool un)], false⟩] ∧ gs = [rdF .i64 r3 (dig B16 Z), rnF w.heap.size q3 (dig B16 Y), rnF w.heap.size p3 (dig B16 X), rdF .i64 p (dig B16 num), rdF .i64 q (dig B16 den)] ∧ (od = decide (X % 2 = 1))) ?_ ?_
   · intro J hJ Al W I
     rcases bTF (decide ((((dig B16 X).length : Nat) : Int) > 0)) with f105 | f105
     · refine zb I 105 (decide ((((dig B16 X).length : Nat) : Int) > 0)) (true) (f105) fun Al W I => ?_
       have hX0 : 0 < (dig B16 X).length := by have := oTr f105; omega
       refine zx I 108 (fun _ => .pointer (some (at_ p3 0))) (fun Al W I => f0n (p := p3) (n := (dig B16 X).length) (c := c3) (m := 0) tvR I.fa.2.2.1.1.solid hX0) fun Al W I => zx I 109 (fun _ => vI ((dg (dig B16 X) 0 : Nat) : Int)) (fun Al W I => n1j I.fa.2.2.1.1 ldR (m := 0) hX0 rfl) fun Al W I => zbin I 110 _ (fun _ _ _ _ _ => o0u .i64 ((dg (dig B16 X) 0 : Nat) : Int) (2) (((X % 2 : Nat) : Int)) ((by decide)) ((q1d X hX0))) fun Al W I => a0i I J fun Al W U I => hJ _ _ _ _ _ ⟨U, ((X % 2 : Nat) : Int) == 1, rfl, rfl, rfl, (by rw [s1u X])⟩ (I.pick [0, 1, 2, 3, 4])
     refine zb I 105 (decide ((((dig B16 X).length : Nat) : Int) > 0)) (false) (f105) fun Al W I => a0i I J fun Al W U I => hJ _ _ _ _ _ ⟨U, false, rfl, rfl, rfl, (by rw [show X = 0 from (a0f a0e X).1 (by have := oFa f105; omega)]; rfl)⟩ (I.pick [0, 1, 2, 3, 4])
   rintro _ _ _ ⟨U3, od, rfl, rfl, rfl, hod⟩ Al W I
   refine zcut I (some 3000016) (fun fr bx gs => ∃ (U4 : Nat → Value) (ub : Bool), fr = (aD :: aE :: .v (vI way) :: .p 0 0 :: .p 1 0 :: vu :: .p 2 0 :: .v (vI (wd : Int)) :: .v (vI x) :: .v (vI kk) :: .v (vS (dig B16 X) p3 c3) :: .v (vS (dig B16 Y) q3 d3) :: .v (vS (dig B16 Z) r3 f3) :: .p 3 0 :: .v (.bool od) :: sw U4 15 3 (.v (.bool false) :: sw U4 19 41 (.v (.bool false) :: sw U4 61 24 (.v (.bool b1) :: sw U4 86 41 (.v (.bool ub) :: sw U4 128 9 (vu :: sw U4 138 20 (vu :: sw U4 159 2 [])))))) : List SV) ∧ bx = [aB, aC, aA, ⟨134, [.v (.bool ng), .v (.slice none 0 0), .v (vI kj), .v (.bool xb), .v (.bool false), .v (.bool un)], false⟩] ∧ gs = [rdF .i64 r3 (dig B16 Z), rnF w.heap.size q3 (dig B16 Y), rnF w.heap.size p3 (dig B16 X), rdF .i64 p (dig B16 num), rdF .i64 q (dig B16 den)] ∧ (upP ng num den e wd way kj = ub)) ?_ ?_
   · intro J hJ Al W I
     by_cases hxx : xb = true
     · refine zd [] I fun Al W I => zk [0] I fun I => zkb 1 I (xb) (true) (hxx) fun I => zk [2, 3, 4, 5, 6, 7, 8, 9, 10, 11, 12, 13, 14] I fun I => a0i I J fun Al W U I => hJ _ _ _ _ _ ⟨U, false, rfl, rfl, rfl, (by have h0 : Y = 0 := (a0f a0e Y).1 (by have h := hxb; rw [hxx] at h; have := beq_iff_eq.1 h; omega); unfold upP; rw [hY, h0]; simp)⟩ (I.pick [0, 1, 2, 3, 4])
     refine zd [] I fun Al W I => zk [0] I fun I => zkb 1 I (xb) (false) ((by simpa using hxx)) fun I => zk [2, 3, 4, 5, 6, 7, 8, 11] I fun I => zo 9 I fun I => zlv I 122 2 3 (dig B16 2) h1u fun Al W p122 I => zo 10 I fun I => zqr I (fun Al W I => have hzW := I.bel.size; r0v q3 p122 _ _ d3 1 Y 2 (Y * 2) W I.fa.2.2.1.1 I.fa.1.rd rfl rfl (by omega) (by omega) rfl) fun Al W p123 c123 I => zo 12 I fun I => zq I (fun Al W I => have hzW := I.bel.size; d0o p123 r3 _ _ c123 f3 (Y * 2) Z W I.fa.1.rd I.fa.2.2.1 rfl rfl (by have := a0x a0e Y 2; omega) (by omega)) fun Al W I => zo 13 I fun I => zq I (fun Al W I => n0u (y0v way ng od (cmpN (Y * 2) Z) W hw1 hw2)) fun Al W I => zk [14] I fun I => a0i I J fun Al W U I => hJ _ _ _ _ _ ⟨U, f0k way ng od (cmpN (Y * 2) Z), rfl, rfl, rfl, (by have h0 : Y ≠ 0 := fun h => hxx (by rw [← hxb, h, a0c]; rfl); unfold upP; rw [hY, hX, hZ, ← hod, decide_eq_true h0, Bool.true_and])⟩ (I.pick [2, 3, 4, 5, 6])
   rintro _ _ _ ⟨U4, ub, rfl, rfl, rfl, hub⟩ Al W I
   refine zcut I (some 2000127) (fun fr bx gs => ∃ (U5 : Nat → Value) (k2 : Int) (dd : Nat) (p4 : OA) (c4 : Nat), fr = (aD :: aE :: .v (vI way) :: .p 0 0 :: .p 1 0 :: vu :: .p 2 0 :: .v (vI (wd : Int)) :: .v (vI x) :: .v (vI kk) :: .v (vS (dig B16 dd) p4 c4) :: .v (vS (dig B16 Y) q3 d3) :: .v (vS (dig B16 Z) r3 f3) :: .p 3 0 :: .v (.bool od) :: sw U5 15 3 (.v (.bool false) :: sw U5 19 41 (.v (.bool false) :: sw U5 61 24 (.v (.bool b1) :: sw U5 86 41 (.v (.bool ub) :: sw U5 128 30 (vu :: sw U5 159 2 []))))) : List SV) ∧ bx = [aB, aC, aA, ⟨134, [.v (.bool ng), .v (.slice none 0 0), .v (vI k2), .v (.bool xb), .v (.bool false), .v (.bool un)], false⟩] ∧ gs = [rnF w.heap.size p4 (dig B16 dd), rdF .i64 p (dig B16 num), rdF .i64 q (dig B16 den)] ∧ (digP ng num den e wd D way kj = dd) ∧ (powP ng num den e wd D way kj = k2)) ?_ ?_
   · intro J hJ Al W I
     rcases bTF ub with rfl | rfl
     · refine zlv I 129 1 3 (dig B16 1) h1t fun Al W p129 I => zg I (fun Al W I => have hzW := I.bel.size; h1r p3 p129 _ _ c3 1 X 1 (X + 1) W I.fa.2.2.2.1.1 I.fa.1.rd rfl rfl (by omega) (by omega) rfl) fun Al V Iv _ hB _ kz => ?_
       rintro _ W ⟨p130, c130, rfl, o130, hb⟩
       refine ⟨_, rfl, kz _ _ hb fun I => ?_⟩
       have I := I.rnR o130 (hB _) Iv
       by_cases hlong : wd * D < blen (X + 1)
       · refine zd [] I fun Al W I => zk [0, 2, 3, 4] I fun I => zki 5 I .i64 ((wd : Int) * (D : Int)) (((wd * D : Nat) : Int)) (N136.out) fun I => zo 1 I fun I => zq I (fun Al W I => have hzW := I.bel.size; n0u (d0a p130 _ c130 (X + 1) W I.fa.1.1 rfl (by have := d0w a0e X 1; omega))) fun Al W I => zkb 6 I (decide (((blen (X + 1) : Nat) : Int) > ((wd * D : Nat) : Int))) (true) (dTr (Int.ofNat_lt.2 hlong)) fun I => zcut I none (fun fr bx gs => ∃ (U6 : Nat → Value) (p143 : OA) (c143 : Nat), fr = (aD :: aE :: .v (vI way) :: .p 0 0 :: .p 1 0 :: vu :: .p 2 0 :: .v (vI (wd : Int)) :: .v (vI x) :: .v (vI kk) :: .v (vS (dig B16 (2 ^ N1)) p143 c143) :: .v (vS (dig B16 Y) q3 d3) :: .v (vS (dig B16 Z) r3 f3) :: .p 3 0 :: .v (.bool od) :: sw U6 15 3 (.v (.bool false) :: sw U6 19 41 (.v (.bool false) :: sw U6 61 24 (.v (.bool b1) :: sw U6 86 41 (.v (.bool true) :: sw U6 128 9 (.v (.bool true) :: sw U6 138 20 (vu :: sw U6 159 2 [])))))) : List SV) ∧ bx = [aB, aC, aA, ⟨134, [.v (.bool ng), .v (.slice none 0 0), .v (vI (kj + 1)), .v (.bool xb), .v (.bool false), .v (.bool un)], false⟩] ∧ gs = [rnF w.heap.size p143 (dig B16 (2 ^ N1)), rnF w.heap.size p130 (dig B16 (X + 1)), rfF w.heap.size p129 1 (dig B16 1), rdF .i64 r3 (dig B16 Z), rnF w.heap.size q3 (dig B16 Y), rnF w.heap.size p3 (dig B16 X), rdF .i64 p (dig B16 num), rdF .i64 q (dig B16 den)]) ?_ ?_
         · intro J hJ Al W I
           refine zd [3] I fun Al W I => zk [0, 1, 2] I fun I => zki 3 I .i64 ((D : Int) - 1) (((D - 1 : Nat) : Int)) (ND.out) fun I => zki 4 I .i64 ((wd : Int) * ((D - 1 : Nat) : Int)) ((N1 : Int)) (NN.out) fun I => zk [6] I fun I => zo2 5 7 I (fun I => ?_) (fun I => ?_)
           · refine zg I (fun Al W I => have hzW := I.bel.size; d1b (N1 : Int) N1 rfl (by omega) W) fun Al V Iv _ hB _ kz => ?_
             rintro _ W ⟨p143, c143, rfl, o143, hb⟩
             refine ⟨_, rfl, kz _ _ hb fun I => ?_⟩
             have I := I.rnR o143 (hB _) Iv
             refine zk [9] I fun I => zo 7 I fun I => zn I fun Al W I => zki 8 I .i64 (kj + 1) ((kj + 1)) (iwo) fun I => zk [10] I fun I => zo 11 I fun I => zn I fun Al W I => a0i I J fun Al W U I => hJ _ _ _ _ _ ⟨U, p143, c143, rfl, rfl, rfl⟩ (I.pick [0, 1, 2, 3, 4, 5, 6, 7])
           refine zn I fun Al W I => zki 8 I .i64 (kj + 1) ((kj + 1)) (iwo) fun I => zo 5 I fun I => zg I (fun Al W I => have hzW := I.bel.size; d1b (N1 : Int) N1 rfl (by omega) W) fun Al V Iv _ hB _ kz => ?_
           rintro _ W ⟨p143, c143, rfl, o143, hb⟩
           refine ⟨_, rfl, kz _ _ hb fun I => ?_⟩
           have I := I.rnR o143 (hB _) Iv
           refine zk [9, 10] I fun I => zo 11 I fun I => zn I fun Al W I => a0i I J fun Al W U I => hJ _ _ _ _ _ ⟨U, p143, c143, rfl, rfl, rfl⟩ (I.pick [0, 1, 2, 3, 4, 5, 6, 7])
         rintro _ _ _ ⟨U6, p143, c143, rfl, rfl, rfl⟩ Al W I
         exact a0i I J fun Al W U I => hJ _ _ _ _ _ ⟨U, kj + 1, 2 ^ N1, p143, c143, rfl, rfl, rfl, ((f0l (D := D) hub hX HN1.out).1.trans (by simp [hlong])), ((f0l (D := D) hub hX HN1.out).2.trans (by simp [hlong]))⟩ (I.pick [0, 6, 7])
       refine zd [] I fun Al W I => zk [0, 2, 3, 4] I fun I => zki 5 I .i64 ((wd : Int) * (D : Int)) (((wd * D : Nat) : Int)) (N136.out) fun I => zo 1 I fun I => zq I (fun Al W I => have hzW := I.bel.size; n0u (d0a p130 _ c130 (X + 1) W I.fa.1.1 rfl (by have := d0w a0e X 1; omega))) fun Al W I => zkb 6 I (decide (((blen (X + 1) : Nat) : Int) > ((wd * D : Nat) : Int))) (false) (dFa (fun h => hlong (Int.ofNat_lt.1 h))) fun I => a0i I J fun Al W U I => hJ _ _ _ _ _ ⟨U, kj, X + 1, p130, c130, rfl, rfl, rfl, ((f0l (D := D) hub hX HN1.out).1.trans (by simp [hlong])), ((f0l (D := D) hub hX HN1.out).2.trans (by simp [hlong]))⟩ (I.pick [0, 5, 6])
     exact a0i I J fun Al W U I => hJ _ _ _ _ _ ⟨U, kj, X, p3, c3, rfl, rfl, rfl, ((f0l (D := D) hub hX HN1.out).1.trans (by simp)), ((f0l (D := D) hub hX HN1.out).2.trans (by simp))⟩ (I.pick [2, 3, 4])
   rintro _ _ _ ⟨U5, k2, dd, p4, c4, rfl, rfl, rfl, hdd, hk2⟩ Al W I
   obtain ⟨ov, hov⟩ : ∃ ov, decide (hi < k2) = ov := ⟨_, rfl⟩
   have HP := t0b (neg := ng) (num := num) (den := den) (e := e) (way := way) HW.out (Int.toNat_natCast D) hkj hdd hk2 hY
   simp only at HP
   rw [l1q, hxb, hov, hun, hkK, HPF.out] at HP
   refine zd [3] I fun Al W I => zk [0, 1, 3, 4] I fun I => zo 2 I fun I => zn I fun Al W I => zkb 5 I (decide (k2 > hi)) (ov) (hov) fun I => zk [6] I fun I => zo 7 I fun I => zn I fun Al W I => zk [8] I fun I => zo 9 I fun I => zn I fun Al W I => ?_
   by_cases hd0 : dd = 0
   · refine zb I 158 ((((dig B16 dd).length : Nat) : Int) == 0) (true) (beq_iff_eq.2 (by rw [hd0, a0c]; rfl)) fun Al W I => zret I (v := fun Al => .agg #[.bool ng, .slice p4 (dig B16 dd).length c4, vI 0, .bool xb, .bool ov, .bool un]) fun Al W I => rend (by rw [if_pos hd0] at HP; exact HP) I.fa.1 I.below
   refine zb I 158 ((((dig B16 dd).length : Nat) : Int) == 0) (false) (bFn (by have := a0f a0e dd; omega)) fun Al W I => zret I (v := fun Al => .agg #[.bool ng, .slice p4 (dig B16 dd).length c4, vI k2, .bool xb, .bool ov, .bool un]) fun Al W I => rend (by rw [if_neg hd0] at HP; exact HP) I.fa.1 I.below
 refine zd [] I fun Al W I => zk [0, 2, 3, 4] I fun I => zki 5 I .i64 ((D : Int) - 1) (((D - 1 : Nat) : Int)) (ND.out) fun I => zki 6 I .i64 ((wd : Int) * ((D - 1 : Nat) : Int)) ((N1 : Int)) (NN.out) fun I => zki 7 I .i64 ((N1 : Int) + 1) ((N1 + 1)) (iwo) fun I => zo 1 I fun I => zq I (fun Al W I => have hzW := I.bel.size; n0u (d0a p2 _ c2 _ W I.fa.2.2.1.1 rfl (by omega))) fun Al W I => zkb 8 I (decide (((blen (qP num den (e - wd * kk)) : Nat) : Int) < (N1 + 1))) (true) (dTr (by have h := hfull; unfold d0x at h; rw [← HN1.out] at h; have := (a0u (qP num den (e - wd * kk)) N1); omega)) fun I => ?_
 have hk7 : K ≤ kk - 1 := by rcases Int.lt_or_le (kk - 1) K with h | h; (obtain rfl : kk = K := by omega); exact absurd HK.out.yes hfull; exact h
 have hmk2 : -700000 ≤ (wd : Int) * (kk - 1) ∧ (wd : Int) * (kk - 1) ≤ 700000 := by rw [Int.mul_sub]; omega
 refine zi I 62 .i64 (kk - 1) ((kk - 1)) (iwo) fun Al W I => zi I 67 .i64 ((wd : Int) * (kk - 1)) ((wd * (kk - 1))) (iwo) fun Al W I => zg I (fun Al W I => have hzW := I.bel.size; j0f ng p q c d num den e (wd * (kk - 1)) W I.fa.2.2.2.1 I.fa.2.2.2.2.1 (by omega) (by omega) hd (by omega) (by omega)) fun Al V Iv _ hB _ kz => ?_
 rintro _ W ⟨p68, c68, q68, d68, r68, f68, rfl, a68, h68, b68, h68b, z68, h68c, hb⟩
 refine ⟨_, rfl, kz _ _ hb fun I => ?_⟩
 have I := I.rn a68 h68 (hB _) Iv
 have I := I.rn b68 h68b (hB _) Iv
 have I := I.rdO z68 h68c (fun a ha h0 e => (Iv.far a ha).2.2.2.2.1 ⟨h0, e⟩) hden0 (hB _) Iv
 exact a0i I J0 fun Al W U I => hJ0 (gk0 - 1) _ _ _ _ _ (by omega) ⟨U, kk - 1, p68, c68, q68, d68, r68, f68, rfl, rfl, rfl, by omega, by omega, hk7⟩ (I.pick [0, 1, 2, 6, 7])
theorem u1o {g : Gd} (G : e0j g) : t1i g := ⟨G.rad, G.d1, by have := G.d2; omega, G.l1, G.l2, G.h1, G.h2, G.le⟩
theorem q0n (ng : Bool) (p q : OA) (c d : Nat) (num den : Nat) (e : Int) (g : Gd) (way K : Int) (w : World) (hp : Rd w .i64 p (dig B16 num)) (hq : Rd w .i64 q (dig B16 den))
 (hl : (dig B16 num).length ≤ 20000) (hl2 : (dig B16 den).length ≤ 20000) (hn : 0 < num) (hd : 0 < den) (he : -200000 ≤ e ∧ e ≤ 200000) (G : e0j g) (hw1 : 1 ≤ way) (hw2 : way ≤ 5) (hK : IsK num den e (wid g) g.digs.toNat K) :
 Calls Tryz.prog 73 #[.agg #[.bool ng, .slice p (dig B16 num).length c, .slice q (dig B16 den).length d, .int .i64 e], .agg #[.int .i64 g.rad, .int .i64 g.digs, .int .i64 g.lo, .int .i64 g.hi, .bool g.grad], .int .i64 way] w (p0t w (fitK ng num den e g way K)) :=
 p0v ng p q c d num den e g way K w hp hq hl hl2 hn hd he (u1o G) hw1 hw2 hK
theorem q0o (ng : Bool) (p q : OA) (c d : Nat) (num den : Nat) (e : Int) (g : Gd) (way : Int) (w : World) (hp : Rd w .i64 p (dig B16 num)) (hq : Rd w .i64 q (dig B16 den))
 (hl : (dig B16 num).length ≤ 20000) (hl2 : (dig B16 den).length ≤ 20000) (hd : 0 < den) (he : -200000 ≤ e ∧ e ≤ 200000) (G : e0j g) (hw1 : 1 ≤ way) (hw2 : way ≤ 5) :
 Calls Tryz.prog 73 #[.agg #[.bool ng, .slice p (dig B16 num).length c, .slice q (dig B16 den).length d, .int .i64 e], .agg #[.int .i64 g.rad, .int .i64 g.digs, .int .i64 g.lo, .int .i64 g.hi, .bool g.grad], .int .i64 way] w (p0t w (a0m ng num den e g way)) := by
 by_cases hn : num = 0
 · subst hn
   have h := p0u ng p q c d (dig B16 den).length e g way w
   unfold a0m
   rw [if_pos rfl, a0c]
   exact h
 · unfold a0m
   rw [if_neg hn]
   have wp := b0f g
   have hd1 := G.d1
   exact q0n ng p q c d num den e g way _ w hp hq hl hl2 (by omega) hd he G hw1 hw2 (i0s (by omega) hd e (by omega) (by omega))
theorem n1t : Tryz.prog.underlying 146 = some (.slice 5) := by kernel_rfl
theorem t1j : Tryz.prog.underlying 5 = some (.int .u8) := by kernel_rfl
theorem h1v : Tryz.prog.underlying 9 = some .string := by kernel_rfl
theorem w0r (xs ys : List Nat) : a0d xs ++ a0d ys = a0d (xs ++ ys) := by
 apply ByteArray.ext
 simp [a0d]
theorem w0s (xs : List Nat) (s : ByteArray) (h : s = a0d xs) (j : Nat) (hj : j < s.size) (hx : dg xs j < 256) : (s[j]'hj).toNat = dg xs j := by
 subst h
 have hj2 : j < xs.length := by rw [← a0k xs]; exact hj
 rw [a0s hj2] at hx ⊢
 have e : (a0d xs)[j]'hj = UInt8.ofNat xs[j] := by
  have h1 : (a0d xs)[j]'hj = ((a0d xs).data.toList)[j]'(by rw [q0y]; simpa using hj2) := by rw [Array.getElem_toList]; rfl
  rw [h1]
  simp only [q0y, List.getElem_map]
 rw [e, UInt8.toNat_ofNat', Nat.mod_eq_of_lt hx]
theorem j0w (xs : List Nat) (k : Nat) : (a0d xs).extract k (a0d xs).size = a0d (xs.drop k) := by
 apply ByteArray.ext
 rw [ByteArray.data_extract]
 apply Array.ext'
 rw [Array.toList_extract, a0k]
 simp [a0d, List.map_drop, List.extract]
 rw [List.take_of_length_le (by simp)]
theorem k0j (D : List Nat) (x : Nat) (s : ByteArray) (h : s = a0d (Txt D)) : a0d [x + 48] ++ s = a0d (Txt (D ++ [x])) := by
 rw [h, w0r, l1o]; rfl
theorem j0g (p : OA) (n c : Nat) (a : Nat) (w : World) (hp : Rd w .i64 p (dig B16 a)) (hn : n = (dig B16 a).length) (hl : (dig B16 a).length ≤ 10000000) :
 Calls Tryz.prog 119 #[.slice p n c] w fun e w' => e = .returned (.string (a0d (a0t a))) ∧ Below w.heap.size w w' := by
 subst hn
 go_enter Tryz.func119, Tryz.ntmps119
 go_wp2
 go_loopg [0, 3] a (fun g av sv wr => ∃ (A : Nat) (D : List Nat) (q : OA) (d : Nat) (s : ByteArray), av = .slice q (dig B16 A).length d ∧ sv = .string s ∧ A ≤ g ∧ Rd wr .i64 q (dig B16 A) ∧ (dig B16 A).length ≤ 10000000 ∧ Below w.heap.size w wr ∧
     Hid (s = a0d (Txt D)) ∧ s.size ≤ 160000000 ∧ D.length ≤ 160000000 ∧ Hid (m0d a D A))
 case atStart => exact ⟨a, [], p, c, _, rfl, rfl, Nat.le_refl _, hp, hl, Below.refl _ _, rfl, Nat.zero_le _, Nat.zero_le _, m0d.start a⟩
 case round =>
  obtain ⟨A, D, q, d, s, rfl, rfl, hg, hq, hlA, hb, hS, hsz, hD, HR⟩ := hrel
  go_wp2_with (refine a0r rfl _ _ (by rfl) tyN 10000 (by omega) (by rfl) ?_; intro p2 w2 ho2 hb2 hz2 hp2)
  have hr2 : Rd w2 .i64 p2 [10000] := ho2.rd
  refine (p0h q p2 _ 1 d 1 A 10000 _ (hq.past hb2) hr2 rfl rfl (by omega) (by omega) (by omega)).mono ?_
  rintro e w3 ⟨p3, c3, p4, c4, rfl, hr3, -, -, hr4, -, -, hb3⟩
  have hb4 := hb.trans ((hb2.mono hb.size).trans (hb3.mono (Nat.le_trans hb.size hb2.size)))
  have HE := hi0 HR.out.enter
  have hq3 : (dig B16 (A / 10000)).length ≤ 10000000 := Nat.le_trans (a0j a0e (Nat.div_le_self _ _)) hlA
  have hAd : A / 10000 < A ∨ A / 10000 = 0 := by omega
  have hrl : A % 10000 < 10000 := Nat.mod_lt _ (by omega)
  generalize A / 10000 = B at *
  generalize A % 10000 = r at *
  have hs4 := hr4.solid
  clear hb hb2 hb3 ho2 hr2 hz2 hp2 hq
  by_cases h0 : r = 0
  · subst h0
    rw [a0c] at *
    go_wp2
    go_loopw [3, 6, 7] (fun sv dv iv wr2 => ∃ (i t : Nat) (D2 : List Nat) (s2 : ByteArray), iv = .int .i64 i ∧ dv = .int .i64 t ∧ sv = .string s2 ∧ i ≤ 4 ∧ t < 10000 ∧ Below w.heap.size w wr2 ∧ Hid (s2 = a0d (Txt D2)) ∧ Hid (D2.length = D.length + i) ∧ s2.size ≤ 160000000 + i ∧ Hid (w0o a D2 i t B) ∧ Rd wr2 .i64 p3 (dig B16 B))
     (fun _ _ iv _ => 4 - (intOf iv).toNat)
    case atStart => exact ⟨0, 0, D, s, rfl, rfl, rfl, by omega, hrl, hb4, hS, rfl, by omega, HE, hr3⟩
    case round =>
     obtain ⟨i, t, D2, s2, rfl, rfl, rfl, hi, ht, hb5, hS2, hD2, hz2, HG, hr5⟩ := hrel
     by_cases h4 : i < 4
     · have HN := hi0 (HG.out.step h4)
       have hone : (a0d [48 + t % 10]).size ≤ 1 := by rw [a0k]; simp
       go_wp2_with (first
         | (refine a0r rfl _ _ rfl m0q _ ?_ rfl ?_; omega; intro p6 w6 ho6 hb6 hz6 hp6)
         | (refine x0p rfl _ _ _ (by rfl) n1t t1j h1v _ _ _ _ ho6.rd ?_ (by rfl) ?_; simp))
       go_roundw
       case measure => simp [intOf]; omega
       case rel =>
        refine ⟨i + 1, t / 10, D2 ++ [t % 10], _, by go_num, by go_num, rfl, by omega, by omega, hb5.trans (hb6.mono hb5.size), ?_, ?_, ?_, HN, hr5.past hb6⟩
        · show _ = a0d (Txt (D2 ++ [t % 10]))
          rw [← k0j D2 (t % 10) s2 hS2.out, Nat.add_comm]
        · show (D2 ++ [t % 10]).length = D.length + (i + 1)
          rw [List.length_append, List.length_singleton, hD2.out]; omega
        · rw [ByteArray.size_append, a0k]; simp; omega
     · obtain rfl : i = 4 := by omega
       have HO := hi0 HG.out.leave
       by_cases hB : 0 < B
       · have hlB : 1 ≤ (dig B16 B).length := List.length_pos_iff.2 ((d0j a0e B).2.2.2 hB)
         have hsb := HO.out.size hB
         have hAB : B < A := by omega
         have hs3 : s2.size ≤ D2.length := by rw [hS2.out, a0k, h0o]; exact Nat.le_refl _
         go_wp2
         go_roundg B
         case measure => omega
         case rel => exact ⟨B, D2, p3, c3, s2, rfl, rfl, Nat.le_refl _, hr5, hq3, hb5, hS2, by omega, by omega, HO⟩
       · obtain rfl : B = 0 := by omega
         rw [a0c] at *
         have hs3 : s2.size = D2.length := by rw [hS2.out, a0k, h0o]
         have hs5 : D2.length ≤ s2.size := by omega
         have hs6 : 4 ≤ s2.size := by rw [hs3, hD2.out]; omega
         have HS3 := hi0 hs3
         have HV := hi0 (show val 10 D2 = a by have := HO.out.2; rw [this]; simp)
         clear hs3
         go_wp2
         go_loop [8] (fun kv => ∃ (k : Nat), kv = .int .i64 k ∧ k < s2.size ∧ Hid (∀ j, D2.length - k ≤ j → dg D2 j = 0)) (fun kv => s2.size - (intOf kv).toNat)
         case atStart => exact ⟨0, rfl, by omega, fun j hj => b0n (by omega)⟩
         case round =>
          obtain ⟨k, rfl, hk, HZ⟩ := hrel
          have hkd : dg D2 (D2.length - 1 - k) < 10 := a0n (by omega) D2 HO.out.1 _
          have hgt := w0s (Txt D2) s2 hS2.out k hk (by rw [b1f (by rw [← HS3.out]; exact hk)]; omega)
          rw [b1f (by rw [← HS3.out]; exact hk)] at hgt
          by_cases hk1 : k + 1 < s2.size
          · by_cases hk2 : dg D2 (D2.length - 1 - k) = 0
            · rw [hk2] at hgt
              have HN : Hid (∀ j, D2.length - (k + 1) ≤ j → dg D2 j = 0) := fun j hj => by
               by_cases hjk : j = D2.length - 1 - k
               · rw [hjk]; exact hk2
               · exact HZ.out j (by omega)
              clear hk2 hkd
              go_wp2
              go_round
              case rel => exact ⟨k + 1, by go_num, hk1, HN⟩
              case measure => simp [intOf]; omega
            · obtain ⟨v, hv⟩ : ∃ v, v = dg D2 (D2.length - 1 - k) + 48 := ⟨_, rfl⟩
              rw [← hv] at hgt
              have hv1 : 49 ≤ v := by omega
              have hv2 : v ≤ 57 := by omega
              have HD := hi0 (m0e D2 k HO.out.1 (by have := HS3.out; omega) HZ.out (.inr hk2))
              rw [HV.out] at HD
              clear hk2 hkd hv
              go_wp2
              go_ret
              rw [← HD.out, ← j0w, ← hS2.out]
              exact ⟨rfl, hb5⟩
          · have HD := hi0 (m0e D2 k HO.out.1 (by have := HS3.out; omega) HZ.out (.inl (by have := HS3.out; omega)))
            rw [HV.out] at HD
            clear hgt hkd
            go_wp2
            go_ret
            rw [← HD.out, ← j0w, ← hS2.out]
            exact ⟨rfl, hb5⟩
  · have hr0 : 1 ≤ r := by omega
    have e1 := h0l (B := B16) a0e hr0 (by unfold B16; omega)
    rw [e1] at hr4 hs4 ⊢
    simp only [List.length_singleton] at hs4
    have hc4 : w3.cell? (at_ p4 0) = some (.int .i64 (r : Nat)) := hr4.cells 0 (by simp)
    clear h0 e1
    go_wp2
    go_loopw [3, 6, 7] (fun sv dv iv wr2 => ∃ (i t : Nat) (D2 : List Nat) (s2 : ByteArray), iv = .int .i64 i ∧ dv = .int .i64 t ∧ sv = .string s2 ∧ i ≤ 4 ∧ t < 10000 ∧ Below w.heap.size w wr2 ∧ Hid (s2 = a0d (Txt D2)) ∧ Hid (D2.length = D.length + i) ∧ s2.size ≤ 160000000 + i ∧ Hid (w0o a D2 i t B) ∧ Rd wr2 .i64 p3 (dig B16 B))
     (fun _ _ iv _ => 4 - (intOf iv).toNat)
    case atStart => exact ⟨0, r, D, s, rfl, rfl, rfl, by omega, hrl, hb4, hS, rfl, by omega, HE, hr3⟩
    case round =>
     obtain ⟨i, t, D2, s2, rfl, rfl, rfl, hi, ht, hb5, hS2, hD2, hz2, HG, hr5⟩ := hrel
     by_cases h4 : i < 4
     · have HN := hi0 (HG.out.step h4)
       have hone : (a0d [48 + t % 10]).size ≤ 1 := by rw [a0k]; simp
       go_wp2_with (first
         | (refine a0r rfl _ _ rfl m0q _ ?_ rfl ?_; omega; intro p6 w6 ho6 hb6 hz6 hp6)
         | (refine x0p rfl _ _ _ (by rfl) n1t t1j h1v _ _ _ _ ho6.rd ?_ (by rfl) ?_; simp))
       go_roundw
       case measure => simp [intOf]; omega
       case rel =>
        refine ⟨i + 1, t / 10, D2 ++ [t % 10], _, by go_num, by go_num, rfl, by omega, by omega, hb5.trans (hb6.mono hb5.size), ?_, ?_, ?_, HN, hr5.past hb6⟩
        · show _ = a0d (Txt (D2 ++ [t % 10]))
          rw [← k0j D2 (t % 10) s2 hS2.out, Nat.add_comm]
        · show (D2 ++ [t % 10]).length = D.length + (i + 1)
          rw [List.length_append, List.length_singleton, hD2.out]; omega
        · rw [ByteArray.size_append, a0k]; simp; omega
     · obtain rfl : i = 4 := by omega
       have HO := hi0 HG.out.leave
       by_cases hB : 0 < B
       · have hlB : 1 ≤ (dig B16 B).length := List.length_pos_iff.2 ((d0j a0e B).2.2.2 hB)
         have hsb := HO.out.size hB
         have hAB : B < A := by omega
         have hs3 : s2.size ≤ D2.length := by rw [hS2.out, a0k, h0o]; exact Nat.le_refl _
         go_wp2
         go_roundg B
         case measure => omega
         case rel => exact ⟨B, D2, p3, c3, s2, rfl, rfl, Nat.le_refl _, hr5, hq3, hb5, hS2, by omega, by omega, HO⟩
       · obtain rfl : B = 0 := by omega
         rw [a0c] at *
         have hs3 : s2.size = D2.length := by rw [hS2.out, a0k, h0o]
         have hs5 : D2.length ≤ s2.size := by omega
         have hs6 : 4 ≤ s2.size := by rw [hs3, hD2.out]; omega
         have HS3 := hi0 hs3
         have HV := hi0 (show val 10 D2 = a by have := HO.out.2; rw [this]; simp)
         clear hs3
         go_wp2
         go_loop [8] (fun kv => ∃ (k : Nat), kv = .int .i64 k ∧ k < s2.size ∧ Hid (∀ j, D2.length - k ≤ j → dg D2 j = 0)) (fun kv => s2.size - (intOf kv).toNat)
         case atStart => exact ⟨0, rfl, by omega, fun j hj => b0n (by omega)⟩
         case round =>
          obtain ⟨k, rfl, hk, HZ⟩ := hrel
          have hkd : dg D2 (D2.length - 1 - k) < 10 := a0n (by omega) D2 HO.out.1 _
          have hgt := w0s (Txt D2) s2 hS2.out k hk (by rw [b1f (by rw [← HS3.out]; exact hk)]; omega)
          rw [b1f (by rw [← HS3.out]; exact hk)] at hgt
          by_cases hk1 : k + 1 < s2.size
          · by_cases hk2 : dg D2 (D2.length - 1 - k) = 0
            · rw [hk2] at hgt
              have HN : Hid (∀ j, D2.length - (k + 1) ≤ j → dg D2 j = 0) := fun j hj => by
               by_cases hjk : j = D2.length - 1 - k
               · rw [hjk]; exact hk2
               · exact HZ.out j (by omega)
              clear hk2 hkd
              go_wp2
              go_round
              case rel => exact ⟨k + 1, by go_num, hk1, HN⟩
              case measure => simp [intOf]; omega
            · obtain ⟨v, hv⟩ : ∃ v, v = dg D2 (D2.length - 1 - k) + 48 := ⟨_, rfl⟩
              rw [← hv] at hgt
              have hv1 : 49 ≤ v := by omega
              have hv2 : v ≤ 57 := by omega
              have HD := hi0 (m0e D2 k HO.out.1 (by have := HS3.out; omega) HZ.out (.inr hk2))
              rw [HV.out] at HD
              clear hk2 hkd hv
              go_wp2
              go_ret
              rw [← HD.out, ← j0w, ← hS2.out]
              exact ⟨rfl, hb5⟩
          · have HD := hi0 (m0e D2 k HO.out.1 (by have := HS3.out; omega) HZ.out (.inl (by have := HS3.out; omega)))
            rw [HV.out] at HD
            clear hgt hkd
            go_wp2
            go_ret
            rw [← HD.out, ← j0w, ← hS2.out]
            exact ⟨rfl, hb5⟩
end Go.Proofs.YtpgomglbaacmdaaGreatDoor
namespace Go.Slip
open Go.RowKit
theorem f0r (s : ByteArray) : a0d (a0b s) = s := by
 unfold a0d a0b
 rw [List.map_map, show (UInt8.ofNat ∘ UInt8.toNat) = id from funext fun x => by simp]
 simp
theorem u0g {s r : ByteArray} (h : a0b s = a0b r) : s = r := by rw [← f0r s, h, f0r]
theorem q1e {s : ByteArray} : s = ByteArray.mk #[] ↔ a0b s = [] := ⟨fun h => by subst h; rfl, fun h => u0g (by rw [h]; rfl)⟩
def Byt (l : List Nat) : Prop := ∀ x ∈ l, x < 256
theorem Byt.of (s : ByteArray) : Byt (a0b s) := j0n s
theorem Byt.drop {l : List Nat} (h : Byt l) (k : Nat) : Byt (l.drop k) := fun x hx => h x (List.mem_of_mem_drop hx)
theorem Byt.take {l : List Nat} (h : Byt l) (k : Nat) : Byt (l.take k) := fun x hx => h x (List.mem_of_mem_take hx)
theorem Byt.append {l m : List Nat} (h : Byt l) (k : Byt m) : Byt (l ++ m) := fun x hx => (List.mem_append.1 hx).elim (h x) (k x)
theorem h0b {l : List Nat} (h : Byt l) (i j : Nat) : (a0d l).extract i j = a0d ((l.take j).drop i) := u0g (by rw [d0g, a0v h, a0v ((h.take j).drop i)])
theorem q1f (xs ys : List Nat) : a0d xs ++ a0d ys = a0d (xs ++ ys) := by
 apply ByteArray.ext
 simp [a0d]
theorem u0h {l : List Nat} (h : Byt l) : a0d l = ByteArray.mk #[] ↔ l = [] := by rw [q1e, a0v h]
section
variable {P : Program} {W : World}
theorem l1r {s r : ByteArray} (h : s.size + r.size ≤ 9223372036854775807) {t : TypeId} {x y : Operand} : (do eqGuard .add t x y (.string s) (.string r); binOp .add t (.string s) (.string r) : Sem Value).run P W = .ok (.string (s ++ r)) W := by
 simp [go_sem, eqGuard, h]
theorem j0x {s r : ByteArray} {b : Bool} (h : (s = r) ↔ b = true) {t : TypeId} {x y : Operand} : (do eqGuard .eql t x y (.string s) (.string r); binOp .eql t (.string s) (.string r) : Sem Value).run P W = .ok (.bool b) W := by
 cases b
 · have : ¬ s = r := fun k => by have := h.1 k; cases this
   have k : ¬ s.toList = r.toList := fun e => this (by rw [Lib.toList_data, Lib.toList_data] at e; rw [← Lib.mk_data s, e, Lib.mk_data])
   simp [go_sem, eqGuard, k]
 · have := h.2 rfl
   subst this
   simp [go_sem, eqGuard]
theorem l1s {s r : ByteArray} {b : Bool} (h : (s = r) ↔ b = false) {t : TypeId} {x y : Operand} : (do eqGuard .neq t x y (.string s) (.string r); binOp .neq t (.string s) (.string r) : Sem Value).run P W = .ok (.bool b) W := by
 cases b
 · have := h.2 rfl
   subst this
   simp [go_sem, eqGuard]
 · have : ¬ s = r := fun k => by have := h.1 k; cases this
   have k : ¬ s.toList = r.toList := fun e => this (by rw [Lib.toList_data, Lib.toList_data] at e; rw [← Lib.mk_data s, e, Lib.mk_data])
   simp [go_sem, eqGuard, k]
theorem m0h {t : TypeId} (ht : P.underlying t = some .string) {s : ByteArray} {i : Int} {j : Nat} (hi : i = j) (hj : j < s.size) : (VO.sx t (.string s) (.int .i64 i)).sem.run P W = .ok (.int .u8 ((dg (a0b s) j : Nat) : Int)) W := by
 subst hi
 rw [← r0f s j hj]
 simp [VO.sem, go_sem, ht, hj]
theorem g0q {t : TypeId} (ht : P.underlying t = some .string) {s : ByteArray} {lo : Option Value} {hi : Option Value} {i j : Nat} (h1 : lo = none ∧ i = 0 ∨ lo = some (.int .i64 i)) (h2 : hi = none ∧ j = s.size ∨ hi = some (.int .i64 j)) (hij : i ≤ j) (hj : j ≤ s.size) : (VO.sl t (.string s) lo hi none).sem.run P W = .ok (.string (s.extract i j)) W := by
 rcases h1 with ⟨rfl, rfl⟩ | rfl <;> rcases h2 with ⟨rfl, rfl⟩ | rfl <;> simp [VO.sem, go_sem, ht, hij, hj]
end
end Go.Slip
namespace Go.Slip
def mayT (c : Nat) : List Nat → Bool × List Nat
 | b :: r => if b = c then (true, r) else (false, b :: r)
 | [] => (false, [])
theorem n0z {l : List Nat} (h : Byt l) (c : Nat) : Byt (mayT c l).2 := by
 cases l with
 | nil => exact h
 | cons b r =>
  show Byt (if b = c then (true, r) else (false, b :: r)).2
  split
  · exact h.drop 1
  · exact h
theorem n1u {l : List Nat} {j : Nat} (hj : j ≤ l.length) (h : ∀ i, i < j → isDg (dg l i) = true) (hs : j < l.length → isDg (dg l j) = false) : l.takeWhile isDg = l.take j ∧ l.dropWhile isDg = l.drop j := by
 have e := List.take_append_drop j l
 have h1 : ∀ x ∈ l.take j, isDg x = true := fun x hx => by
  obtain ⟨i, hi, rfl⟩ := List.mem_iff_getElem.1 hx
  rw [List.getElem_take]
  have := h i (by rw [List.length_take] at hi; omega)
  rwa [a0s (by rw [List.length_take] at hi; omega)] at this
 rcases Nat.lt_or_ge j l.length with h2 | h2
 · have h3 := hs h2
   rw [a0s h2] at h3
   have h4 := p0d h3 (l.drop (j + 1)) h1
   rw [← List.drop_eq_getElem_cons h2, e] at h4
   exact h4
 · have h4 := a1v h1
   rw [List.take_of_length_le h2] at h4 ⊢
   rw [List.drop_of_length_le h2]
   exact h4
end Go.Slip
namespace Go.Proofs.YtpgomglbaacmdaaGreatDoor
open Go.RowKit Go.Slip
theorem uSt : Tryz.prog.underlying 9 = some .string := by kernel_rfl
theorem q1g (l : List Nat) (hb : Byt l) (c u : Nat) (w : World) (U : Bt w u 159 #[.string (a0d l)]) :
 Calls Tryz.prog 97 #[.pointer (some ⟨u, 0, none⟩), .int .u8 (c : Int)] w fun en w' => en = .returned (.bool (mayT c l).1) ∧ Kp [u] w w' ∧ Bt w' u 159 #[.string (a0d (mayT c l).2)] := by
 cases l with
 | nil =>
  have I := Inv.startW w u 159 [.v (.string (a0d []))] [] U True.intro True.intro
  refine a0g [.p 0 0, .v (.int .u8 (c : Int))] I Tryz.func97 ?_
  refine zbin I 9 _ (fun _ _ _ _ _ => j0x (s := a0d []) (r := ⟨#[]⟩) (iff_of_true rfl rfl)) fun Al W I => zret I fun Al W I => ⟨rfl, I.bel, I.boxE 159 _⟩
 | cons b r =>
  have hn : a0d (b :: r) ≠ ByteArray.mk #[] := fun h => by have := (u0h hb).1 h; cases this
  have h0 : dg (a0b (a0d (b :: r))) 0 = b := by rw [a0v hb]; rfl
  have hz : 0 < (a0d (b :: r)).size := by rw [a0k]; exact Nat.succ_pos _
  have hd : (a0d (b :: r)).extract 1 (a0d (b :: r)).size = a0d r := by rw [h0b hb, a0k, List.take_length]; rfl
  rw [show mayT c (b :: r) = if b = c then (true, r) else (false, b :: r) from rfl]
  generalize hs : a0d (b :: r) = s at *
  have I := Inv.startW w u 159 [.v (.string s)] [] U True.intro True.intro
  refine a0g [.p 0 0, .v (.int .u8 (c : Int))] I Tryz.func97 ?_
  refine zbin I 9 _ (fun _ _ _ _ _ => j0x (s := s) (r := ⟨#[]⟩) (b := false) (iff_of_false hn Bool.false_ne_true)) fun Al W I => zx I 15 (fun _ => .int .u8 (b : Int)) (fun Al W I => (by rw [← h0]; exact m0h uSt rfl hz)) fun Al W I => ?_
  rcases bTF ((b : Int) != (c : Int)) with f17 | f17
  · refine zb I 17 ((b : Int) != (c : Int)) (true) (f17) fun Al W I => zret I (v := fun Al => .bool false) fun Al W I => ?_
    first | (rw [if_neg (fun h => bne_iff_ne.1 f17 (by rw [h]))]; exact ⟨rfl, I.bel, hs ▸ I.boxE 159 _⟩) | (rw [if_pos (by have h : (b : Int) = c := (by simpa using f17); omega)]; exact ⟨rfl, I.bel, I.boxE 159 _⟩)
  refine zb I 17 ((b : Int) != (c : Int)) (false) (f17) fun Al W I => zx I 24 (fun _ => .string (a0d r)) (fun Al W I => (by rw [← hd]; exact g0q uSt (.inr rfl) (.inl ⟨rfl, rfl⟩) hz (Nat.le_refl _))) fun Al W I => zret I (v := fun Al => .bool true) fun Al W I => ?_
  (rw [if_pos (by have h : (b : Int) = c := (by simpa using f17); omega)]; exact ⟨rfl, I.bel, I.boxE 159 _⟩)
theorem d1c (l : List Nat) (hb : Byt l) (hl : l.length ≤ 1000000000) (u : Nat) (w : World) (U : Bt w u 159 #[.string (a0d l)]) :
 Calls Tryz.prog 98 #[.pointer (some ⟨u, 0, none⟩)] w fun en w' => en = .returned (.string (a0d (l.takeWhile isDg))) ∧ Kp [u] w w' ∧ Bt w' u 159 #[.string (a0d (l.dropWhile isDg))] := by
 have hg : a0b (a0d l) = l := a0v hb
 have hz : (a0d l).size = l.length := a0k l
 have ht := fun j => h0b hb 0 j
 have hd : ∀ j, (a0d l).extract j (a0d l).size = a0d (l.drop j) := fun j => by rw [h0b hb, a0k, List.take_length]
 have hT := fun (j : Nat) h1 h2 h3 => n1u (l := l) (j := j) h1 h2 h3
 generalize a0d l = s at *
 have I := Inv.startW w u 159 [.v (.string s)] [] U True.intro True.intro
 refine a0g [.p 0 0] I Tryz.func98 ?_
 refine g0e I (fun gk fr bx gs => ∃ (U900 : Nat → Value) (j : Nat), fr = (.p 0 0 :: .v undef :: .v (Go.Value.string (ByteArray.mk #[])) :: .v (.int .i64 (j : Int)) :: .v undef :: sw U900 5 43 [] : List SV) ∧ bx = [⟨159, [.v (.string s)], false⟩] ∧ gs = [] ∧ (j ≤ l.length) ∧ (∀ i, i < j → isDg (dg l i) = true) ∧ (gk + j = l.length)) l.length (fun Al W U I => ⟨_, ⟨U, 0, rfl, rfl, rfl, (Nat.zero_le _), (fun i hi => absurd hi (Nat.not_lt_zero i)), (Nat.add_zero _)⟩, I.pick []⟩) ?_
 rintro J0 gk0 _ _ _ ⟨U900, j, rfl, rfl, rfl, hj, hall, hgk⟩ hJ0 Al W I
 rcases bTF (decide ((j : Int) < (s.size : Int))) with f11 | f11
 · refine zb I 11 (decide ((j : Int) < (s.size : Int))) (true) (f11) fun Al W I => zx I 18 (fun _ => .int .u8 ((dg l j : Nat) : Int)) (fun Al W I => (by rw [← hg]; exact m0h uSt rfl (by have := oTr f11; omega))) fun Al W I => ?_
   rcases bTF (decide (((dg l j : Nat) : Int) ≥ 48)) with f19 | f19
   · refine zb I 19 (decide (((dg l j : Nat) : Int) ≥ 48)) (true) (f19) fun Al W I => zx I 27 (fun _ => .int .u8 ((dg l j : Nat) : Int)) (fun Al W I => (by rw [← hg]; exact m0h uSt rfl (by have := oTr f11; omega))) fun Al W I => ?_
     rcases bTF (decide (((dg l j : Nat) : Int) ≤ 57)) with f28 | f28
     · refine zb I 28 (decide (((dg l j : Nat) : Int) ≤ 57)) (true) (f28) fun Al W I => zi I 31 .i64 ((j : Int) + 1) ((((j + 1 : Nat) : Int))) ((by have := oTr f11; exact iwo)) fun Al W I => a0i I J0 fun Al W U I => hJ0 (gk0 - 1) _ _ _ _ _ ((by have := oTr f11; omega)) ⟨U, j + 1, rfl, rfl, rfl, (by have := oTr f11; omega), (fun i hi => by have := oTr f19; have := oTr f28; exact (Nat.lt_or_ge i j).elim (fun h => hall i h) (fun h => by rw [show i = j by omega]; exact t0l (by omega))), (by have := oTr f11; omega)⟩ (I.pick [])
     refine zb I 28 (decide (((dg l j : Nat) : Int) ≤ 57)) (false) (f28) fun Al W I => zx I 37 (fun _ => .string (s.extract 0 j)) (fun Al W I => (g0q uSt (.inl ⟨rfl, rfl⟩) (.inr rfl) (Nat.zero_le _) (by omega))) fun Al W I => zx I 44 (fun _ => .string (s.extract j s.size)) (fun Al W I => (g0q uSt (.inr rfl) (.inl ⟨rfl, rfl⟩) (by omega) (Nat.le_refl _))) fun Al W I => ?_
     have hst : j < l.length → isDg (dg l j) = false := fun hjl => by ((have := oFa f28; unfold isDg; rw [decide_eq_false (p := dg l j ≤ 57) (by omega), Bool.and_false]))
     obtain ⟨e1, e2⟩ := hT j hj hall hst
     rw [e1, e2, ← hd j]
     exact zret I (v := fun Al => .string (s.extract 0 j)) fun Al W I => ⟨by rw [ht j]; rfl, I.bel, I.boxE 159 _⟩
   refine zb I 19 (decide (((dg l j : Nat) : Int) ≥ 48)) (false) (f19) fun Al W I => zx I 37 (fun _ => .string (s.extract 0 j)) (fun Al W I => (g0q uSt (.inl ⟨rfl, rfl⟩) (.inr rfl) (Nat.zero_le _) (by omega))) fun Al W I => zx I 44 (fun _ => .string (s.extract j s.size)) (fun Al W I => (g0q uSt (.inr rfl) (.inl ⟨rfl, rfl⟩) (by omega) (Nat.le_refl _))) fun Al W I => ?_
   have hst : j < l.length → isDg (dg l j) = false := fun hjl => by ((have := oFa f19; unfold isDg; rw [decide_eq_false (by omega)]; rfl))
   obtain ⟨e1, e2⟩ := hT j hj hall hst
   rw [e1, e2, ← hd j]
   exact zret I (v := fun Al => .string (s.extract 0 j)) fun Al W I => ⟨by rw [ht j]; rfl, I.bel, I.boxE 159 _⟩
 refine zb I 11 (decide ((j : Int) < (s.size : Int))) (false) (f11) fun Al W I => zx I 37 (fun _ => .string (s.extract 0 j)) (fun Al W I => (g0q uSt (.inl ⟨rfl, rfl⟩) (.inr rfl) (Nat.zero_le _) (by omega))) fun Al W I => zx I 44 (fun _ => .string (s.extract j s.size)) (fun Al W I => (g0q uSt (.inr rfl) (.inl ⟨rfl, rfl⟩) (by omega) (Nat.le_refl _))) fun Al W I => ?_
 have hst : j < l.length → isDg (dg l j) = false := fun hjl => by ((have := oFa f11; exfalso; omega))
 obtain ⟨e1, e2⟩ := hT j hj hall hst
 rw [e1, e2, ← hd j]
 exact zret I (v := fun Al => .string (s.extract 0 j)) fun Al W I => ⟨by rw [ht j]; rfl, I.bel, I.boxE 159 _⟩
end Go.Proofs.YtpgomglbaacmdaaGreatDoor
namespace Go.Proofs.YtpgomglbaacmdaaGreatDoor
def z0f : Go.Shelf.Ren := ⟨fun | 161 => 52 | 231 => 100 | 227 => 101 | 233 => 102 | 235 => 103 | 228 => 134 | 197 => 135 | 151 => 136 | 260 => 155 | 152 => 156 | 137 => 173 | 119 => 174 | 224 => 175 | 225 => 176 | 217 => 182 | 266 => 183 | n => n, fun | 9 => 9 | 4 => 4 | 3 => 3 | 5 => 5 | 117 => 169 | 116 => 168 | 0 => 0 | 124 => 172 | 105 => 194 | 21 => 21 | 119 => 236 | 46 => 149 | 139 => 239 | 138 => 238 | n => n, fun | 3 => 4 | 4 => 5 | n => n⟩
theorem q1h : Go.Proofs.Lays.n161 Tryz.prog z0f := by constructor <;> first | (intros; kernel_rfl) | (constructor <;> (intros; kernel_rfl))
def z0g : Go.Shelf.Ren := ⟨fun | 172 => 99 | 244 => 132 | 245 => 133 | 247 => 150 | 279 => 151 | 280 => 152 | 281 => 153 | 282 => 154 | 287 => 170 | 316 => 171 | 171 => 49 | 205 => 172 | 321 => 180 | 322 => 181 | 243 => 96 | 246 => 131 | 283 => 146 | 284 => 147 | 285 => 148 | 286 => 149 | 129 => 166 | 317 => 165 | 318 => 167 | 319 => 168 | 320 => 169 | 337 => 137 | 338 => 179 | n => n, fun | 9 => 9 | 3 => 3 | 75 => 163 | 76 => 164 | 4 => 4 | 5 => 5 | 167 => 212 | 37 => 146 | 0 => 0 | 85 => 213 | 2 => 2 | 168 => 215 | 53 => 148 | 175 => 230 | 46 => 149 | 210 => 234 | 127 => 246 | 145 => 249 | 143 => 247 | 21 => 21 | 171 => 207 | 173 => 210 | 212 => 227 | 51 => 101 | 20 => 20 | 213 => 228 | 232 => 219 | 233 => 250 | 80 => 161 | n => n, fun | 15 => 2 | 16 => 3 | 17 => 1 | 18 => 0 | 19 => 7 | n => n⟩
theorem q1i : Go.Proofs.Lays.n172 Tryz.prog z0g := by constructor <;> first | (intros; kernel_rfl) | (constructor <;> (intros; kernel_rfl))
def w0t : Go.Shelf.Ren := ⟨fun | 171 => 49 | 243 => 96 | 246 => 131 | 283 => 146 | 284 => 147 | 285 => 148 | 286 => 149 | 129 => 166 | 317 => 165 | 318 => 167 | 319 => 168 | 320 => 169 | 337 => 137 | 338 => 179 | n => n, fun | 3 => 3 | 9 => 9 | 2 => 2 | 4 => 4 | 171 => 207 | 0 => 0 | 53 => 148 | 37 => 146 | 5 => 5 | 173 => 210 | 212 => 227 | 51 => 101 | 20 => 20 | 213 => 228 | 46 => 149 | 232 => 219 | 233 => 250 | n => n, fun | 17 => 1 | 18 => 0 | 19 => 7 | n => n⟩
theorem l1t : Go.Proofs.LaysM.n171 Tryz.prog w0t := by constructor <;> first | (intros; kernel_rfl) | (constructor <;> (intros; kernel_rfl))
end Go.Proofs.YtpgomglbaacmdaaGreatDoor
namespace Go.Slip
open Go.RowKit
theorem w0u (d : Nat) (h : d < 10) : (UInt8.ofNat (48 + d)).toNat = d + 48 := by rw [UInt8.toNat_ofNat', Nat.mod_eq_of_lt (by omega)]; omega
theorem r0y (u : Nat) : (Lib.decDigits u).map UInt8.toNat = a0t u := by
 have hz : ∀ v, 0 < v → a0t v = (dig 10 v).reverse.map (· + 48) := fun v h => by unfold a0t; rw [if_neg (by omega)]
 induction u using Nat.strongRecOn with
 | _ u ih =>
  rw [Lib.decDigits]
  by_cases h : u < 10
  · rw [dif_pos h, List.map_cons, List.map_nil, w0u u h]
    by_cases h0 : u = 0
    · subst h0; rfl
    · rw [hz u (by omega), c0d (B := 10) (by omega) (by omega), Nat.mod_eq_of_lt h, Nat.div_eq_of_lt h, a0c]; rfl
  · rw [dif_neg h, List.map_append, ih (u / 10) (by omega), List.map_cons, List.map_nil, w0u _ (Nat.mod_lt _ (by omega)), hz u (by omega), hz (u / 10) (by omega), c0d (B := 10) (n := u) (by omega) (by omega)]
    simp
theorem d1d (n : Int) : (⟨(Lib.itoa n).toArray⟩ : ByteArray) = a0d (e0m n) := by
 apply u0g
 have hb : Byt (e0m n) := by
  intro x hx
  unfold e0m at hx
  split at hx
  · rcases List.mem_cons.1 hx with rfl | hx
    · omega
    · have := h0h _ x hx; omega
  · have := h0h _ x hx; omega
 rw [a0v hb]
 unfold a0b Lib.itoa e0m
 split
 · rw [show (-n).toNat = n.natAbs by omega, ← r0y]; rfl
 · rw [← r0y]
theorem r0z : ∀ (l : List UInt8) (a : Nat), (∀ y ∈ l, isDg y.toNat = true) → Lib.decFrom a l = some ((l.map UInt8.toNat).foldl (fun a b => 10 * a + (b - 48)) a)
 | [], a, _ => rfl
 | b :: r, a, h => by
  have h1 := d0d.1 (h b List.mem_cons_self)
  have h2 := r0z r (a * 10 + (b.toNat - 48)) fun y hy => h y (List.mem_cons_of_mem b hy)
  rw [Lib.decFrom]
  unfold Lib.digitVal
  rw [if_pos h1]
  simp only
  rw [h2, List.map_cons, List.foldl_cons, Nat.mul_comm a 10]
theorem l1u {m : List UInt8} (hd : ∀ y ∈ m, isDg y.toNat = true) (h2 : m ≠ []) : Lib.atoi m = some ((a0l (m.map UInt8.toNat) : Nat) : Int) := by
 cases m with
 | nil => exact absurd rfl h2
 | cons b r =>
  have hb1 := d0d.1 (hd b List.mem_cons_self)
  have hn : ∀ k : UInt8, k.toNat < 48 → (b == k) = false := fun k hk => bFn fun h => by subst h; omega
  unfold Lib.atoi
  simp only [hn 45 (by decide), hn 43 (by decide), Bool.false_eq_true, if_false]
  unfold Lib.decNat
  rw [if_neg (by simp), r0z _ _ hd]
  rfl
theorem q1j {x : List Nat} (hb : Byt x) (h1 : ∀ y ∈ x, isDg y = true) (h2 : x ≠ []) : Lib.atoi (a0d x).data.toList = some ((a0l x : Nat) : Int) := by
 have e : (a0d x).data.toList.map UInt8.toNat = x := a0v hb
 have k := l1u (m := (a0d x).data.toList) (fun y hy => h1 _ (by rw [← e]; exact List.mem_map_of_mem hy)) (fun h => h2 (by rw [← e, h]; rfl))
 rw [e] at k
 exact k
theorem h1w {l : List Nat} : ∀ x ∈ l.dropWhile (· == 48), x ∈ l := fun _ hx => List.dropWhile_sublist _ |>.subset hx
theorem d1e (l : List Nat) (hb : Byt l) : (⟨(Lib.trimLeftB (a0d l).data.toList 48).toArray⟩ : ByteArray) = a0d (l.dropWhile (· == 48)) := by
 apply u0g
 rw [a0v fun x hx => hb x (h1w x hx)]
 have e : (a0d l).data.toList.map UInt8.toNat = l := a0v hb
 have key : ∀ m : List UInt8, (m.dropWhile (· == 48)).map UInt8.toNat = (m.map UInt8.toNat).dropWhile (· == 48) := by
  intro m
  induction m with
  | nil => rfl
  | cons b r ih =>
   rw [List.map_cons, List.dropWhile_cons, List.dropWhile_cons]
   by_cases h : b = 48
   · subst h; simpa using ih
   · have h1 : (b == 48) = false := bFn h
     have h2 : (b.toNat == 48) = false := bFn fun k => h (UInt8.toNat_inj.1 (by rw [k]; rfl))
     rw [h1, h2]; rfl
 have := key (a0d l).data.toList
 rw [e] at this
 exact this
theorem d1f (l : List Nat) : a0l (l.dropWhile (· == 48)) = a0l l := by
 induction l with
 | nil => rfl
 | cons b r ih =>
  rw [List.dropWhile_cons]
  split
  · rename_i h
    rw [ih, beq_iff_eq.1 h]
    rfl
  · rfl
end Go.Slip
namespace Go.Proofs.YtpgomglbaacmdaaGreatDoor
open Go.RowKit Go.Slip
def PowW (w : World) : Prop := Lib.TabIs Tryz.prog w "internal/strconv.uint64pow10" .u64 Lib.pow10Tab ∧ 1 < w.heap.size
theorem PowW.same {w w' : World} (h : PowW w) (hb : w'.heap[1]? = w.heap[1]?) (hs : w.heap.size ≤ w'.heap.size) : PowW w' := by
 refine ⟨?_, Nat.lt_of_lt_of_le h.2 hs⟩
 have h1 := h.1
 unfold Lib.TabIs World.var? at h1 ⊢
 rw [show Tryz.prog.globalNamed "internal/strconv.uint64pow10" = some 1 by kernel_rfl] at h1 ⊢
 simp only [Option.bind_some] at h1 ⊢
 rw [hb]; exact h1
def powF : PF := ⟨PowW, fun a => 1 = a, fun _ _ h hb hs => h.same (hb _ h.2 rfl) hs, fun _ _ h hf => hf ▸ h.2⟩
theorem PowW.past {w w' : World} (h : PowW w) (hb : Below w.heap.size w w') : PowW w' := h.same (hb.block _ h.2) hb.size
theorem l1v (x : List Nat) (h1 : ∀ y ∈ x, isDg y = true) (h2 : x ≠ []) (h3 : x.length ≤ 5) (w : World) : Calls Tryz.prog 99 #[.string (a0d x)] w fun en w' => en = .returned (.tuple #[.int .i64 ((a0l x : Nat) : Int), .nilIface]) ∧ Below w.heap.size w w' := by
 have hb : Byt x := fun y hy => by have := d0d.1 (h1 y hy); omega
 refine (Any.strconv_Atoi q1i (a0d x) _ (by rw [a0k]; omega) (q1j hb h1 h2) w).mono ?_
 rintro e w' ⟨rfl, t, rfl⟩
 exact ⟨rfl, f0i (Nat.le_refl _) _ _⟩
theorem l1w (n : Int) (h : -9223372036854775808 ≤ n ∧ n ≤ 9223372036854775807) (w : World) (hT : PowW w) : Calls Tryz.prog 49 #[.int .i64 n] w fun en w' => en = .returned (.string (a0d (e0m n))) ∧ Below w.heap.size w w' := by
 refine (Any.strconv_Itoa l1t n h.1 h.2 w hT.1).mono ?_
 rintro e w' ⟨rfl, k, os, rfl⟩
 refine ⟨by rw [d1d], ?_⟩
 exact ⟨rfl, rfl, rfl, by simp [Sort.grow], fun b hb => by simp [Sort.grow]; rw [Array.getElem?_append_left hb]⟩
theorem l1x (l : List Nat) (hb : Byt l) (w : World) : Calls Tryz.prog 52 #[.string (a0d l), .string ⟨#[48]⟩] w fun en w' => en = .returned (.string (a0d (l.dropWhile (· == 48)))) ∧ Below w.heap.size w w' := by
 refine (Any.strings_TrimLeft_one q1h (a0d l) 48 (by decide) w).mono ?_
 rintro e w' ⟨rfl, rfl⟩
 exact ⟨by rw [d1e l hb], Below.refl _ _⟩
end Go.Proofs.YtpgomglbaacmdaaGreatDoor
namespace Go.Proofs.YtpgomglbaacmdaaGreatDoor
open Go.ChangeShapes Go.WideShapes Go.ChangeAt Go.RowKit Go.Slip
def u0i : List (String × DataW Unit) := [("math/bits.deBruijn32tab", Rows.laid_math_bits_deBruijn32tab), ("math/bits.deBruijn64tab", Rows.laid_math_bits_deBruijn64tab), ("internal/strconv.uint64pow10", Rows.laid_internal_strconv_uint64pow10), ("unicode/utf8.acceptRanges", Rows.laid_unicode_utf8_acceptRanges), ("strconv.ErrRange", Rows.laid_strconv_ErrRange), ("strconv.ErrSyntax", Rows.laid_strconv_ErrSyntax), ("unicode/utf8.first", Rows.laid_unicode_utf8_first)]
theorem h1x : u0i.filter (fun x => x.1 == "math/bits.deBruijn32tab") = [("math/bits.deBruijn32tab", Rows.laid_math_bits_deBruijn32tab)] := by kernel_rfl
theorem h1y : u0i.filter (fun x => x.1 == "internal/strconv.uint64pow10") = [("internal/strconv.uint64pow10", Lib.tabData .u64 Lib.pow10Tab)] := by kernel_rfl
theorem l1y {W : World} (h : laidMetH Tryz.prog u0i W) : TabW W ∧ PowW W := by
 have h1 := h.filter (fun x => x.1 == "math/bits.deBruijn32tab")
 have h2 := h.filter (fun x => x.1 == "internal/strconv.uint64pow10")
 rw [h1x] at h1
 rw [h1y, MakeChecks.laidMetH_plain _ _ _ (by kernel_rfl)] at h2
 have hg : Tryz.prog.globalNamed "internal/strconv.uint64pow10" = some 1 := by kernel_rfl
 have h3 := Lib.tabIs_of_head (t := 227) (e := 148) (n := 20) hg (by kernel_rfl) (by kernel_rfl) (by kernel_rfl) (by kernel_rfl) (by kernel_rfl) h2
 exact ⟨x0t h1, h3, World.block_lt_of_cell? W _ (h3.cell hg 0 (by decide))⟩
end Go.Proofs.YtpgomglbaacmdaaGreatDoor
namespace Go.Slip
open Go.RowKit
theorem w0v (l : List Nat) : n0t l = mayT 45 l := by
 cases l with
 | nil => rfl
 | cons b r =>
  rw [show mayT 45 (b :: r) = if b = 45 then (true, r) else (false, b :: r) from rfl]
  split
  · rename_i h; subst h; rfl
  · rename_i h; exact t0m r h
theorem j0h (l : List Nat) : q0j l = if (mayT 46 l).1 = true then (if (mayT 46 l).2.takeWhile isDg = [] then none else some ((mayT 46 l).2.takeWhile isDg, (mayT 46 l).2.dropWhile isDg)) else some ([], (mayT 46 l).2) := by
 cases l with
 | nil => rfl
 | cons b r =>
  rw [show mayT 46 (b :: r) = if b = 46 then (true, r) else (false, b :: r) from rfl]
  by_cases h : b = 46
  · subst h; rfl
  · rw [if_neg h, r0n r h]; rfl
theorem u0j (l : List Nat) : powT l = if (mayT 101 l).1 = true then (if (mayT 45 (mayT 101 l).2).2.takeWhile isDg = [] ∨ 5 < ((mayT 45 (mayT 101 l).2).2.takeWhile isDg).length then none else some (if (mayT 45 (mayT 101 l).2).1 then -(a0l ((mayT 45 (mayT 101 l).2).2.takeWhile isDg) : Int) else a0l ((mayT 45 (mayT 101 l).2).2.takeWhile isDg), (mayT 45 (mayT 101 l).2).2.dropWhile isDg)) else some (0, (mayT 101 l).2) := by
 cases l with
 | nil => rfl
 | cons b r =>
  rw [show mayT 101 (b :: r) = if b = 101 then (true, r) else (false, b :: r) from rfl]
  by_cases h : b = 101
  · subst h
    rw [if_pos rfl, if_pos rfl, ← w0v]
    rfl
  · rw [if_neg h, if_neg Bool.false_ne_true]
    unfold powT
    split
    · rename_i heq
      injection heq with h1 _
      exact absurd h1 h
    · rfl
theorem p0w (l : List Nat) : (∀ x ∈ l.takeWhile isDg, isDg x = true ∧ x ∈ l) ∧ (∀ x ∈ l.dropWhile isDg, x ∈ l) ∧ (l.takeWhile isDg).length ≤ l.length ∧ (l.dropWhile isDg).length ≤ l.length := by
 induction l with
 | nil => exact ⟨fun _ h => (nomatch h), fun x hx => hx, Nat.le_refl _, Nat.le_refl _⟩
 | cons b r ih =>
  obtain ⟨h1, h2, h3, h4⟩ := ih
  rw [List.takeWhile_cons, List.dropWhile_cons]
  cases hb : isDg b
  · exact ⟨fun _ h => (nomatch h), fun x hx => hx, Nat.zero_le _, Nat.le_refl _⟩
  · rw [if_pos rfl, if_pos rfl]
    refine ⟨fun x hx => ?_, fun x hx => List.mem_cons_of_mem _ (h2 x hx), by rw [List.length_cons, List.length_cons]; omega, by rw [List.length_cons]; omega⟩
    rcases List.mem_cons.1 hx with rfl | hx
    · exact ⟨hb, List.mem_cons_self⟩
    · exact ⟨(h1 x hx).1, List.mem_cons_of_mem _ (h1 x hx).2⟩
theorem h1z {l : List Nat} (h : Byt l) : Byt (l.takeWhile isDg) ∧ Byt (l.dropWhile isDg) := ⟨fun x hx => h x ((p0w l).1 x hx).2, fun x hx => h x ((p0w l).2.1 x hx)⟩
theorem j0y (c : Nat) (l : List Nat) : (mayT c l).2.length ≤ l.length := by
 cases l with
 | nil => exact Nat.le_refl _
 | cons b r =>
  rw [show mayT c (b :: r) = if b = c then (true, r) else (false, b :: r) from rfl]
  split
  · exact Nat.le_succ _
  · exact Nat.le_refl _
def numE (g : Bool) (d : List Nat) (pw : Int) (l : List Nat) : Option Numl :=
 if d = [] then none else match powT l with | none => none | some (e, r) => if r = [] then some ⟨g, d, e + pw⟩ else none
theorem z0h (l : List Nat) : numl l = match q0j ((mayT 45 l).2.dropWhile isDg) with | none => none | some (f, r) => numE (mayT 45 l).1 ((mayT 45 l).2.takeWhile isDg ++ f) (-(f.length : Int)) r := by
 unfold numl
 rw [w0v]
 rfl
theorem g0r {o : Option Numl} {g : Bool} {d : List Nat} {pw e q : Int} {l r : List Nat} (h : o = numE g d pw l) (hd : d.isEmpty = false) (hp : powT l = some (e, r)) (hq : q = e + pw) : o = if r.isEmpty = true then some ⟨g, d, q⟩ else none := by
 subst hq
 rw [h]
 unfold numE
 rw [if_neg (fun k => by rw [k] at hd; cases hd), hp]
 cases r <;> rfl
abbrev LN := List Nat
theorem c0l {P : Program} {W : World} (xs ys : List Nat) (h : xs.length + ys.length ≤ 9223372036854775807) {t : TypeId} {x y : Operand} : (do eqGuard .add t x y (.string (a0d xs)) (.string (a0d ys)); binOp .add t (.string (a0d xs)) (.string (a0d ys)) : Sem Value).run P W = .ok (.string (a0d (xs ++ ys))) W := by
 rw [← q1f]
 exact l1r (by rw [a0k, a0k]; exact h)
theorem f0s {P : Program} {W : World} {l : List Nat} (h : Byt l) {t : TypeId} {x y : Operand} : (do eqGuard .eql t x y (.string (a0d l)) (.string ⟨#[]⟩); binOp .eql t (.string (a0d l)) (.string ⟨#[]⟩) : Sem Value).run P W = .ok (.bool l.isEmpty) W :=
 j0x ((u0h h).trans List.isEmpty_iff.symm)
end Go.Slip
namespace Go.Proofs.YtpgomglbaacmdaaGreatDoor
open Go.RowKit Go.Slip
theorem z0i (t : ByteArray) (w : World) (ht : t.size ≤ 1000) :
 Calls Tryz.prog 50 #[.string t] w fun en w' => ∃ g ds pw ok, en = .returned (.tuple #[.bool g, .string (a0d ds), .int .i64 pw, .bool ok]) ∧ (numl (a0b t) = (if ok = true then some ⟨g, ds, pw⟩ else none) ∧ Byt ds) ∧ Below w.heap.size w w' := by
 have hb0 := Byt.of t
 have hl0 : (a0b t).length ≤ 1000 := by rw [a0q]; exact ht
 have hN := z0h (a0b t)
 have hst := f0r t
 generalize a0b t = l0 at *
 rw [← hst]
 clear hst
 have hM := fun c l hb u W U => hi0 (q1g l hb c u W U)
 have hD := fun l hb hl u W U => hi0 (d1c l hb hl u W U)
 have hA := fun x h1 h2 h3 W => hi0 (l1v x h1 h2 h3 W)
 -- the parts, one behind the other
 have hb1 := n0z hb0 45
 have hl1 := j0y 45 l0
 obtain ⟨g, l1, e1⟩ : ∃ g l1, mayT 45 l0 = (g, l1) := ⟨_, _, rfl⟩
 have m1 := hM 45 l0 hb0
 rw [e1] at hb1 hl1 m1
 have hb2 := h1z hb1
 have hs2 := p0w l1
 have d2 := hD l1 hb1 (by simp only at hl1; omega)
 rw [e1] at hN
 simp only at hN hb1 hl1 hb2 hs2 m1
 generalize l1.takeWhile isDg = d at *
 generalize l1.dropWhile isDg = l2 at *
 rw [j0h] at hN
 have hb3 := n0z hb2.2 46
 have hl3 := j0y 46 l2
 have m3 := hM 46 l2 hb2.2
 obtain ⟨p, l3, e3⟩ : ∃ p l3, mayT 46 l2 = (p, l3) := ⟨_, _, rfl⟩
 rw [e3] at hb3 hl3 m3 hN
 have hb4 := h1z hb3
 have hs4 := p0w l3
 have d4 := hD l3 hb3 (by simp only at hl3; omega)
 simp only at hN hb3 hl3 hb4 hs4 m3
 generalize l3.takeWhile isDg = f at *
 generalize l3.dropWhile isDg = l4 at *
 have hN1 : numl l0 = (match (if p = true then if f = [] then none else some (f, l4) else some ([], l3) : Option (List Nat × List Nat)) with | none => none | some (f, r) => numE g (d ++ f) (-(f.length : Int)) r) := hN
 clear hN
 have I := Inv.start w [] True.intro
 refine a0g [.v (.string (a0d l0))] I Tryz.func50 ?_
 refine zge I 0 159 (fun Al W I => (m1 _ W (I.box 0 159 _)).out) fun Al V Iv _ _ kz => ?_
 rintro _ W ⟨rfl, hO, hB⟩
 refine ⟨_, rfl, kz _ [.v (.string (a0d l1))] _ hO hB fun I => ?_⟩
 refine zge I 0 159 (fun Al W I => (d2 _ W (I.box 0 159 _)).out) fun Al V Iv _ _ kz => ?_
 rintro _ W ⟨rfl, hO, hB⟩
 refine ⟨_, rfl, kz _ [.v (.string (a0d l2))] _ hO hB fun I => ?_⟩
 refine zge I 0 159 (fun Al W I => (m3 _ W (I.box 0 159 _)).out) fun Al V Iv _ _ kz => ?_
 rintro _ W ⟨rfl, hO, hB⟩
 refine ⟨_, rfl, kz _ [.v (.string (a0d l3))] _ hO hB fun I => ?_⟩
 refine zcut I (some 2000023) (fun fr bx gs => ∃ (U1 : Nat → Value) (D : LN) (pw : Int) (lr : LN), fr = (.v (.string (a0d l0)) :: vu :: sw U1 2 4 (.p 0 0 :: .v (.bool g) :: .v (.string (a0d D)) :: .v (vI pw) :: .v (U1 10) :: su 3 (sw U1 14 9 (.v (.bool p) :: sw U1 24 11 (vu :: .v (U1 36) :: vu :: sw U1 38 10 (vu :: sw U1 49 5 (vu :: sw U1 55 13 [])))))) : List SV) ∧ bx = [⟨159, [.v (.string (a0d lr))], false⟩] ∧ gs = [] ∧ (numl l0 = numE g D pw lr) ∧ (Byt D) ∧ (Byt lr) ∧ (lr.length ≤ 1000) ∧ (-1000 ≤ pw ∧ pw ≤ 0)) ?_ ?_
 · intro J hJ Al W I
   rcases bTF p with rfl | rfl
   · refine zge I 0 159 (fun Al W I => (d4 _ W (I.box 0 159 _)).out) fun Al V Iv _ _ kz => ?_
     rintro _ W ⟨rfl, hO, hB⟩
     refine ⟨_, rfl, kz _ [.v (.string (a0d l4))] _ hO hB fun I => ?_⟩
     rcases bTF (f.isEmpty) with f27 | f27
     · refine zbin I 27 (.bool true) (fun _ _ _ _ W => ((f0s hb4.1)).trans (congrArg (fun z => Result.ok (Value.bool z) W) (show (f.isEmpty) = true from f27))) fun Al W I => zret I (v := fun Al => .tuple #[.bool false, Go.Value.string (ByteArray.mk #[]), vI 0, .bool false]) fun Al W I => ⟨false, [], 0, false, rfl, ⟨by rw [hN1, if_pos rfl, if_pos (List.isEmpty_iff.1 f27)]; rfl, fun _ h => (nomatch h)⟩, I.below⟩
     refine zbin I 27 (.bool false) (fun _ _ _ _ W => ((f0s hb4.1)).trans (congrArg (fun z => Result.ok (Value.bool z) W) (show (f.isEmpty) = false from f27))) fun Al W I => zbin I 30 _ (fun _ _ _ _ _ => (c0l d f (by omega))) fun Al W I => zi I 33 .i64 (0 - (((a0d f).size : Nat) : Int)) ((-(f.length : Int))) ((by rw [a0k, Int.zero_sub]; exact iwo)) fun Al W I => a0i I J fun Al W U I => hJ _ _ _ _ _ ⟨U, (d ++ f), (-(f.length : Int)), l4, rfl, rfl, rfl, (by rw [hN1, if_pos rfl, if_neg (fun h => by rw [h] at f27; cases f27)]), (hb2.1.append hb4.1), hb4.2, (by omega), (by omega)⟩ (I.pick [])
   exact a0i I J fun Al W U I => hJ _ _ _ _ _ ⟨U, d, 0, l3, rfl, rfl, rfl, (by rw [hN1, if_neg Bool.false_ne_true]; simp), hb2.1, hb3, (by omega), (by omega)⟩ (I.pick [])
 rintro _ _ _ ⟨U1, D, pw, lr, rfl, rfl, rfl, hN2, hbD, hbl, hll, hpw⟩ Al W I
 rcases bTF (D.isEmpty) with f35 | f35
 · refine zbin I 35 (.bool true) (fun _ _ _ _ W => ((f0s hbD)).trans (congrArg (fun z => Result.ok (Value.bool z) W) (show (D.isEmpty) = true from f35))) fun Al W I => zret I (v := fun Al => .tuple #[.bool false, Go.Value.string (ByteArray.mk #[]), vI 0, .bool false]) fun Al W I => ?_
   first | exact ⟨false, [], 0, false, rfl, ⟨by rw [hN2]; unfold numE; rw [if_pos (List.isEmpty_iff.1 f35)]; rfl, fun _ h => (nomatch h)⟩, I.below⟩ | exact ⟨g, D, q, le.isEmpty, rfl, ⟨g0r hN2 f35 hQ (by omega), hbD⟩, I.below⟩
 refine zbin I 35 (.bool false) (fun _ _ _ _ W => ((f0s hbD)).trans (congrArg (fun z => Result.ok (Value.bool z) W) (show (D.isEmpty) = false from f35))) fun Al W I => ?_
 have hb5 := n0z hbl 101
 have hl5 := j0y 101 lr
 have m5 := hM 101 lr hbl
 have hP := u0j lr
 obtain ⟨pe, l5, e5⟩ : ∃ pe l5, mayT 101 lr = (pe, l5) := ⟨_, _, rfl⟩
 rw [e5] at hb5 hl5 m5 hP
 simp only at hb5 hl5 m5 hP
 refine zge I 0 159 (fun Al W I => (m5 _ W (I.box 0 159 _)).out) fun Al V Iv _ _ kz => ?_
 rintro _ W ⟨rfl, hO, hB⟩
 refine ⟨_, rfl, kz _ [.v (.string (a0d l5))] _ hO hB fun I => ?_⟩
 refine zcut I (some 2000037) (fun fr bx gs => ∃ (U2 : Nat → Value) (q : Int) (le : LN), fr = (.v (.string (a0d l0)) :: vu :: sw U2 2 4 (.p 0 0 :: .v (.bool g) :: .v (.string (a0d D)) :: .v (vI q) :: .v (U1 10) :: sw U2 11 12 (.v (.bool p) :: sw U2 24 3 (.v (U1 27) :: sw U2 28 7 (.v (.bool false) :: .v (U2 36) :: .v (.bool pe) :: sw U2 38 30 [])))) : List SV) ∧ bx = [⟨159, [.v (.string (a0d le))], false⟩] ∧ gs = [] ∧ (powT lr = some (q - pw, le)) ∧ (Byt le)) ?_ ?_
 · intro J hJ Al W I
   rcases bTF pe with rfl | rfl
   · rw [if_pos rfl] at hP
     have hb6 := n0z hb5 45
     have hl6 := j0y 45 l5
     have m6 := hM 45 l5 hb5
     obtain ⟨mi, l6, e6⟩ : ∃ mi l6, mayT 45 l5 = (mi, l6) := ⟨_, _, rfl⟩
     rw [e6] at hb6 hl6 m6 hP
     have d6 := hD l6 hb6 (by simp only at hl6; omega)
     simp only at hb6 hl6 m6 hP
     have hb7 := h1z hb6
     have hs7 := p0w l6
     generalize l6.takeWhile isDg = x at *
     generalize l6.dropWhile isDg = l7 at *
     have hx10 : x.length ≤ 5 → a0l x < 100000 := fun h => Nat.lt_of_lt_of_le (g0k x fun j hj => by rw [a0s hj]; exact (d0d.1 (hs7.1 _ (List.getElem_mem hj)).1).2) (Nat.pow_le_pow_right (n := 10) (by omega) h)
     refine zge I 0 159 (fun Al W I => (m6 _ W (I.box 0 159 _)).out) fun Al V Iv _ _ kz => ?_
     rintro _ W ⟨rfl, hO, hB⟩
     refine ⟨_, rfl, kz _ [.v (.string (a0d l6))] _ hO hB fun I => ?_⟩
     refine zge I 0 159 (fun Al W I => (d6 _ W (I.box 0 159 _)).out) fun Al V Iv _ _ kz => ?_
     rintro _ W ⟨rfl, hO, hB⟩
     refine ⟨_, rfl, kz _ [.v (.string (a0d l7))] _ hO hB fun I => ?_⟩
     rcases bTF (x.isEmpty) with f43 | f43
     · refine zbin I 43 (.bool true) (fun _ _ _ _ W => ((f0s hb7.1)).trans (congrArg (fun z => Result.ok (Value.bool z) W) (show (x.isEmpty) = true from f43))) fun Al W I => zret I (v := fun Al => .tuple #[.bool false, Go.Value.string (ByteArray.mk #[]), vI 0, .bool false]) fun Al W I => ?_
       first | exact ⟨false, [], 0, false, rfl, ⟨by rw [hN2]; unfold numE; rw [if_pos (List.isEmpty_iff.1 f35)]; rfl, fun _ h => (nomatch h)⟩, I.below⟩ | exact ⟨false, [], 0, false, rfl, ⟨by rw [hN2]; unfold numE; rw [if_neg (fun h => by rw [h] at f35; cases f35), hP, if_pos (by exact .inl (List.isEmpty_iff.1 f43))]; rfl, fun _ h => (nomatch h)⟩, I.below⟩ | exact ⟨g, D, q, le.isEmpty, rfl, ⟨g0r hN2 f35 hQ (by omega), hbD⟩, I.below⟩
     refine zbin I 43 (.bool false) (fun _ _ _ _ W => ((f0s hb7.1)).trans (congrArg (fun z => Result.ok (Value.bool z) W) (show (x.isEmpty) = false from f43))) fun Al W I => ?_
     rcases bTF (decide ((((a0d x).size : Nat) : Int) > 5)) with f47 | f47
     · refine zb I 47 (decide ((((a0d x).size : Nat) : Int) > 5)) (true) (f47) fun Al W I => zret I (v := fun Al => .tuple #[.bool false, Go.Value.string (ByteArray.mk #[]), vI 0, .bool false]) fun Al W I => ?_
       first | exact ⟨false, [], 0, false, rfl, ⟨by rw [hN2]; unfold numE; rw [if_pos (List.isEmpty_iff.1 f35)]; rfl, fun _ h => (nomatch h)⟩, I.below⟩ | exact ⟨false, [], 0, false, rfl, ⟨by rw [hN2]; unfold numE; rw [if_neg (fun h => by rw [h] at f35; cases f35), hP, if_pos (by first | exact .inl (List.isEmpty_iff.1 f43) | exact .inr (by have := oTr f47; rw [a0k] at this; omega))]; rfl, fun _ h => (nomatch h)⟩, I.below⟩ | exact ⟨g, D, q, le.isEmpty, rfl, ⟨g0r hN2 f35 hQ (by omega), hbD⟩, I.below⟩
     refine zb I 47 (decide ((((a0d x).size : Nat) : Int) > 5)) (false) (f47) fun Al W I => zq I (fun Al W I => have hzW := I.bel.size; (hA x (fun y hy => (hs7.1 y hy).1) (fun h => by rw [h] at f43; cases f43) (by have := oFa f47; rw [a0k] at this; omega) W).out) fun Al W I => ?_
     have hx5 : x.length ≤ 5 := by have := oFa f47; rw [a0k] at this; omega
     have hx6 := hx10 hx5
     rw [if_neg (fun h => h.elim (fun h => by rw [h] at f43; cases f43) (fun h => by omega))] at hP
     refine zcut I (some 2000054) (fun fr bx gs => ∃ (U3 : Nat → Value) (nn : Int), fr = (.v (.string (a0d l0)) :: vu :: sw U1 2 4 (.p 0 0 :: .v (.bool g) :: .v (.string (a0d D)) :: .v (vI pw) :: .v (U1 10) :: .v (.bool mi) :: .v (.string (a0d x)) :: .v (vI nn) :: sw U3 14 9 (.v (.bool p) :: sw U3 24 3 (.v (U1 27) :: sw U3 28 7 (.v (.bool false) :: .v (U3 36) :: .v (.bool true) :: sw U3 38 10 (.v (.bool false) :: sw U3 49 5 (.v (.bool mi) :: sw U3 55 13 [])))))) : List SV) ∧ bx = [⟨159, [.v (.string (a0d l7))], false⟩] ∧ gs = [] ∧ ((if mi then -((a0l x : Nat) : Int) else ((a0l x : Nat) : Int)) = nn)) ?_ ?_
     · intro J hJ Al W I
       rcases bTF mi with rfl | rfl
       · refine zi I 56 .i64 (0 - ((a0l x : Nat) : Int)) ((-((a0l x : Nat) : Int))) ((by rw [Int.zero_sub]; exact iwo)) fun Al W I => a0i I J fun Al W U I => hJ _ _ _ _ _ ⟨U, -((a0l x : Nat) : Int), rfl, rfl, rfl, rfl⟩ (I.pick [])
       exact a0i I J fun Al W U I => hJ _ _ _ _ _ ⟨U, ((a0l x : Nat) : Int), rfl, rfl, rfl, rfl⟩ (I.pick [])
     rintro _ _ _ ⟨U3, nn, rfl, rfl, rfl, hnn⟩ Al W I
     rw [hnn] at hP
     have hnb : -100000 ≤ nn ∧ nn ≤ 100000 := by rw [← hnn]; split <;> omega
     refine zi I 59 .i64 (pw + nn) ((nn + pw)) ((by rw [Int.add_comm]; exact iwo)) fun Al W I => a0i I J fun Al W U I => hJ _ _ _ _ _ ⟨U, nn + pw, l7, rfl, rfl, rfl, (by rw [hP]; congr 2; omega), hb7.2⟩ (I.pick [])
   exact a0i I J fun Al W U I => hJ _ _ _ _ _ ⟨U, pw, l5, rfl, rfl, rfl, (by rw [hP, if_neg Bool.false_ne_true]; congr 2; omega), hb5⟩ (I.pick [])
 rintro _ _ _ ⟨U2, q, le, rfl, rfl, rfl, hQ, hbe⟩ Al W I
 refine zd [] I fun Al W I => zk [0, 1, 2, 3, 4, 5, 6, 8, 9, 10] I fun I => zo 7 I fun I => zbin I 67 _ (fun _ _ _ _ _ => (f0s hbe)) fun Al W I => zk [11] I fun I => zret I (v := fun Al => .tuple #[.bool g, .string (a0d D), vI q, .bool le.isEmpty]) fun Al W I => ?_
 first | exact ⟨false, [], 0, false, rfl, ⟨by rw [hN2]; unfold numE; rw [if_pos (List.isEmpty_iff.1 f35)]; rfl, fun _ h => (nomatch h)⟩, I.below⟩ | exact ⟨g, D, q, le.isEmpty, rfl, ⟨g0r hN2 f35 hQ (by omega), hbD⟩, I.below⟩
end Go.Proofs.YtpgomglbaacmdaaGreatDoor
namespace Go.Slip
open Go.RowKit
def ratL (l : List Nat) : Bool × Nat × Nat × Int := if errT l.length (numl l) = 0 then (match numl l with | some q => f0o q | none => (false, 0, 0, 0)) else (false, 0, 0, 0)
theorem b1h {l : List Nat} (h : 400 < l.length) : errT l.length (numl l) = 2 ∧ ratL l = (false, 0, 0, 0) := by
 have h1 : errT l.length (numl l) = 2 := by unfold errT; rw [if_pos h]
 exact ⟨h1, by unfold ratL; rw [h1]; rfl⟩
theorem b1i {l : List Nat} (h : ¬ 400 < l.length) (hn : numl l = none) : errT l.length (numl l) = 1 ∧ ratL l = (false, 0, 0, 0) := by
 have h1 : errT l.length (numl l) = 1 := by unfold errT; rw [if_neg h, hn]
 exact ⟨h1, by unfold ratL; rw [h1]; rfl⟩
theorem w0w {l : List Nat} (h : ¬ 400 < l.length) {q : Numl} (hn : numl l = some q) (hp : q.pow < -6000 ∨ 6000 < q.pow) : errT l.length (numl l) = 3 ∧ ratL l = (false, 0, 0, 0) := by
 have h1 : errT l.length (numl l) = 3 := by unfold errT; rw [if_neg h, hn]; exact if_pos hp
 exact ⟨h1, by unfold ratL; rw [h1]; rfl⟩
theorem b1j {l : List Nat} (h : ¬ 400 < l.length) {q : Numl} (hn : numl l = some q) (hp : ¬ (q.pow < -6000 ∨ 6000 < q.pow)) : errT l.length (numl l) = 0 ∧ ratL l = f0o q := by
 have h1 : errT l.length (numl l) = 0 := by unfold errT; rw [if_neg h, hn]; exact if_neg hp
 exact ⟨h1, by unfold ratL; rw [h1, hn]; rfl⟩
theorem d1g {l f r : List Nat} (h : q0j l = some (f, r)) : (∀ x ∈ f, isDg x = true) ∧ f.length ≤ l.length := by
 rw [j0h] at h
 have hl := j0y 46 l
 have hs := p0w (mayT 46 l).2
 split at h
 · split at h
   · cases h
   · injection h with h; injection h with h1 h2; subst h1
     exact ⟨fun x hx => (hs.1 x hx).1, by omega⟩
 · injection h with h; injection h with h1 h2; subst h1
   exact ⟨fun _ hx => (nomatch hx), Nat.zero_le _⟩
theorem p0x {l : List Nat} {q : Numl} (h : numl l = some q) : (∀ x ∈ q.ds, isDg x = true) ∧ q.ds.length ≤ 2 * l.length := by
 rw [z0h] at h
 have hl := j0y 45 l
 have hs := p0w (mayT 45 l).2
 generalize (mayT 45 l).2 = m at *
 cases hf : q0j (m.dropWhile isDg) with
 | none => rw [hf] at h; cases h
 | some fr =>
  obtain ⟨f, r⟩ := fr
  rw [hf] at h
  simp only at h
  have hF := d1g hf
  unfold numE at h
  split at h
  · cases h
  · split at h
    · cases h
    · split at h
      · injection h with h
        subst h
        exact ⟨fun x hx => (List.mem_append.1 hx).elim (fun k => (hs.1 x k).1) (hF.1 x), by rw [List.length_append]; omega⟩
      · cases h
theorem s0a {q : Numl} (h : a0l q.ds = 0) : f0o q = (false, 0, 1, 0) := by unfold f0o; rw [if_pos h]
theorem b1k {q : Numl} (h : a0l q.ds ≠ 0) (hp : 0 ≤ q.pow) : f0o q = (q.neg, a0l q.ds / 2 ^ tz (a0l q.ds) * 5 ^ q.pow.toNat, 1, tz (a0l q.ds) + q.pow) := by unfold f0o; rw [if_neg h, if_pos hp]
theorem b1l {q : Numl} (h : a0l q.ds ≠ 0) (hp : ¬ 0 ≤ q.pow) {n f : Nat} (hc : b0k (a0l q.ds / 2 ^ tz (a0l q.ds)) (-q.pow).toNat = (n, f)) : f0o q = (q.neg, n, 5 ^ f, tz (a0l q.ds) + q.pow) := by unfold f0o; rw [if_neg h, if_neg hp, hc]
theorem i1a {B : Nat} (hB : 10 ≤ B) {l : List Nat} (h : ∀ x ∈ l, isDg x = true) : (dig B (a0l l)).length ≤ l.length := by
 rw [a0h (by omega)]
 exact Nat.lt_of_lt_of_le (g0k l fun j hj => by rw [a0s hj]; exact (d0d.1 (h _ (List.getElem_mem hj))).2) (Nat.pow_le_pow_left hB _)
theorem w0x {l : List Nat} (h : ∀ x ∈ l, isDg x = true) : a1h (a0d l) := fun j hj => by
 have hb : Byt l := fun x hx => by have := d0d.1 (h x hx); omega
 rw [a0k] at hj
 rw [a0v hb, a0s hj]
 exact d0d.1 (h _ (List.getElem_mem hj))
theorem n0p {n P : Nat} (h : P = 0 ∨ n % 5 ≠ 0) : b0k n P = (n, P) := by
 cases P with
 | zero => rfl
 | succ P => rw [b0k, if_neg (h.resolve_left (by omega))]
theorem w0y {n P : Nat} (h0 : 0 < P) (h : n % 5 = 0) : b0k n P = b0k (n / 5) (P - 1) := by
 cases P with
 | zero => omega
 | succ P => rw [b0k, if_pos h]; rfl
end Go.Slip
namespace Go.Proofs.YtpgomglbaacmdaaGreatDoor
open Go.RowKit Go.Slip
theorem q1k (p : OA) (c m : Nat) (w : World) (hp : Rd w .u32 p (dig B32 m)) (hc : (dig B32 m).length ≤ c) (hl : (dig B32 m).length ≤ 1000000) (hT : TabW w) :
 Calls Tryz.prog 53 #[.slice p (dig B32 m).length c] w fun en w' => ∃ q d, en = .returned (.tuple #[.slice q (dig B32 (m / 2 ^ tz m)).length d, .int .i64 ((tz m : Nat) : Int)]) ∧ Own w' w.heap.size .u32 101 q d (dig B32 (m / 2 ^ tz m)) ∧ Below w.heap.size w w' := by
 have htz := a1z m hl
 have HZ := fun W h hT => hi0 ((l0h p _ c m W h rfl (by omega) hT).mono fun _ _ ⟨h1, h2⟩ => ⟨h1, h2 ▸ Below.refl _ _⟩ : Calls Tryz.prog 104 #[.slice p (dig B32 m).length c] W fun en W' => en = .returned (.int .i64 ((tz m : Nat) : Int)) ∧ Below W.heap.size W W')
 have HS := fun W h => hi0 (sshr p _ c m (tz m) _ _ W h rfl hc (by omega) (by omega) rfl rfl)
 generalize tz m = z at *
 have I := Inv.start w [rdF .u32 p (dig B32 m), tabF] ⟨hp, hT, True.intro⟩
 refine a0g [.v (.slice p (dig B32 m).length c)] I Tryz.func53 ?_
 refine zq I (fun Al W I => (HZ W I.fa.1 I.fa.2.1).out) fun Al W I => zqo I (fun Al W I => (HS W I.fa.1).out) fun Al W p9 c9 I => zret I fun Al W I => ⟨p9, c9, rfl, I.fa.1, I.below⟩
def o0a (w : World) (er : Int) (R : Bool × Nat × Nat × Int) (en : Ending) (w' : World) : Prop :=
 ∃ p c q d, en = .returned (.tuple #[.agg #[.bool R.1, .slice p (dig B32 R.2.1).length c, .slice q (dig B32 R.2.2.1).length d, .int .i64 R.2.2.2], .int .i64 er]) ∧ Own w' w.heap.size .u32 101 p c (dig B32 R.2.1) ∧ Own w' w.heap.size .u32 101 q d (dig B32 R.2.2.1) ∧ Below w.heap.size w w'
theorem b0y {w w' : World} {er k : Int} {R : Bool × Nat × Nat × Int} {en : Ending} (h : er = k ∧ R = (false, 0, 0, 0)) (he : en = .returned (.tuple #[.agg #[.bool false, .slice none 0 0, .slice none 0 0, .int .i64 0], .int .i64 k])) (hb : Below w.heap.size w w') : o0a w er R en w' := by
 obtain ⟨rfl, rfl⟩ := h
 have e : dig B32 0 = [] := a0c _
 refine ⟨none, 0, none, 0, ?_, ?_, ?_, hb⟩
 · rw [he]; simp only [e]; rfl
 · show Own _ _ _ _ _ _ (dig B32 0); rw [e]; exact Own.nil _ _ _ _
 · show Own _ _ _ _ _ _ (dig B32 0); rw [e]; exact Own.nil _ _ _ _
theorem w0z {w w' : World} {p : OA} {c : Nat} {en : Ending} (he : en = .returned (.tuple #[.agg #[.bool false, .slice none 0 0, .slice p (dig B32 1).length c, .int .i64 0], .int .i64 0])) (h : Own w' w.heap.size .u32 101 p c (dig B32 1)) (hb : Below w.heap.size w w') : o0a w 0 (false, 0, 1, 0) en w' := by
 have e : dig B32 0 = [] := a0c _
 refine ⟨none, 0, p, c, ?_, ?_, h, hb⟩
 · rw [he]; simp only [e]; rfl
 · show Own _ _ _ _ _ _ (dig B32 0); rw [e]; exact Own.nil _ _ _ _
theorem x0a (t : ByteArray) (w : World) (hT : TabW w) : Calls Tryz.prog 16 #[.string t] w (o0a w (errT (a0b t).length (numl (a0b t))) (ratL (a0b t))) := by
 have hz : t.size = (a0b t).length := (a0q t).symm
 have HN := fun W h => hi0 (z0i t W h)
 have h1 := @b1h (a0b t)
 have h2 := @b1i (a0b t)
 have h3 := @w0w (a0b t)
 have h4 := @b1j (a0b t)
 have h5 := @p0x (a0b t)
 generalize errT (a0b t).length (numl (a0b t)) = er at *
 generalize ratL (a0b t) = R at *
 generalize numl (a0b t) = N at *
 generalize (a0b t).length = L at *
 have HTr := fun l hb W => hi0 (l1x l hb W)
 have HPa := fun s h1 h2 W => hi0 (g1r s W h1 h2)
 have HO := fun (k : Nat) hk W => hi0 (sof (k : Int) k rfl hk W)
 have HPw := fun p c K W base ho hb hK => hi0 (a1x base p c 5 K W ho hb (by omega) hK)
 have HMu := fun p q c d a b W hp hq hl => hi0 (t0r p q _ _ c d a b W hp hq rfl rfl hl)
 have HOd := fun p c m W hp hc hl hT => hi0 (q1k p c m W hp hc hl hT)
 have HDv := fun p q c d a W hp hq hl => hi0 (i0e p q _ _ c d a 5 W hp hq rfl rfl hl (Nat.le_trans ((a0h a0a 5 1).2 (by decide)) (by omega)) (by omega))
 have I := Inv.start w [tabF] ⟨hT, True.intro⟩
 refine a0g [.v (.string t)] I Tryz.func16 ?_
 rcases bTF (decide ((t.size : Int) > 400)) with f16 | f16
 · refine zb I 16 (decide ((t.size : Int) > 400)) (true) (f16) fun Al W I => zret I fun Al W I => b0y (h1 (by have := oTr f16; omega)) rfl I.below
 refine zb I 16 (decide ((t.size : Int) > 400)) (false) (f16) fun Al W I => zg I (fun Al W I => have hzW := I.bel.size; (HN W (by have := oFa f16; omega)).out) fun Al V Iv _ hB _ kz => ?_
 rintro _ W ⟨g, ds, pw, ok, rfl, hN, hb⟩
 refine ⟨_, rfl, kz _ _ hb fun I => ?_⟩
 rcases bTF (!ok) with f26 | f26
 · refine zb I 26 (!ok) (true) (f26) fun Al W I => zret I (v := fun Al => .tuple #[.agg #[.bool false, .slice none 0 0, .slice none 0 0, vI 0], vI 1]) fun Al W I => b0y (h2 (by have := oFa f16; omega) (by rw [hN.1, if_neg (by simpa using f26)])) rfl I.below
 refine zb I 26 (!ok) (false) (f26) fun Al W I => ?_
 rcases bTF (decide (pw < (-6000))) with f29 | f29
 · have hN2 : N = some ⟨g, ds, pw⟩ := by rw [hN.1, if_pos (by simpa using f26)]
   refine zb I 29 (decide (pw < (-6000))) (true) (f29) fun Al W I => zret I (v := fun Al => .tuple #[.agg #[.bool false, .slice none 0 0, .slice none 0 0, vI 0], vI 3]) fun Al W I => ?_
   first | exact b0y (h2 (by have := oFa f16; omega) (by rw [hN.1, if_neg (by simpa using f26)])) rfl I.below | exact b0y (h3 (by have := oFa f16; omega) hN2 (by exact .inl (oTr f29))) rfl I.below
 have hN2 : N = some ⟨g, ds, pw⟩ := by rw [hN.1, if_pos (by simpa using f26)]
 refine zb I 29 (decide (pw < (-6000))) (false) (f29) fun Al W I => ?_
 rcases bTF (decide (pw > 6000)) with f32 | f32
 · refine zb I 32 (decide (pw > 6000)) (true) (f32) fun Al W I => zret I (v := fun Al => .tuple #[.agg #[.bool false, .slice none 0 0, .slice none 0 0, vI 0], vI 3]) fun Al W I => ?_
   first | exact b0y (h2 (by have := oFa f16; omega) (by rw [hN.1, if_neg (by simpa using f26)])) rfl I.below | exact b0y (h3 (by have := oFa f16; omega) hN2 (by exact .inr (oTr f32))) rfl I.below
 refine zb I 32 (decide (pw > 6000)) (false) (f32) fun Al W I => ?_
 have hdg := (h5 hN2).1
 have hdl := (h5 hN2).2
 have hrk := h4 (by have := oFa f16; omega) hN2 (fun (h : pw < -6000 ∨ 6000 < pw) => by have := oFa f29; have := oFa f32; omega)
 have hpw : -6000 ≤ pw ∧ pw ≤ 6000 := by have := oFa f29; have := oFa f32; omega
 have tr := HTr ds hN.2
 have hzd : ∀ x ∈ ds.dropWhile (· == 48), isDg x = true := fun x hx => hdg x (h1w x hx)
 have hzl : (ds.dropWhile (· == 48)).length ≤ ds.length := (List.dropWhile_sublist _).length_le
 have hnm := d1f ds
 generalize ds.dropWhile (· == 48) = dz at *
 have pz := HPa (a0d dz) (by rw [a0k]; simp only at hdl; omega) (w0x hzd)
 have hSl : (dig B32 (a0l ds)).length ≤ 800 := by rw [← hnm]; exact Nat.le_trans (i1a (B := B32) (by decide) hzd) (by simp only at hdl; omega)
 rw [a0v (fun x hx => by have := d0d.1 (hzd x hx); omega), hnm] at pz
 have r0 := s0a (q := ⟨g, ds, pw⟩)
 have r1 := b1k (q := ⟨g, ds, pw⟩)
 have r2 := fun h hp n f => b1l (q := ⟨g, ds, pw⟩) h hp (n := n) (f := f)
 simp only at r0 r1 r2
 generalize a0l ds = S at *
 have hod := fun p c W hp hc hl hT => HOd p c S W hp hc hl hT
 have hol : (dig B32 (S / 2 ^ tz S)).length ≤ 800 := Nat.le_trans (a0j a0a (Nat.div_le_self _ _)) hSl
 have hzb := a1z S hSl
 have hS0 := a0f a0a S
 generalize S / 2 ^ tz S = o at *
 generalize tz S = z at *
 have h5l : ∀ k, k ≤ 6000 → (dig B32 (5 ^ k)).length ≤ 6001 := fun k hk => g0m (K := 6001) a0a (by decide) (by omega) (by omega)
 refine zq I (fun Al W I => (tr W).out) fun Al W I => zg I (fun Al W I => (pz W).out) fun Al V Iv _ hB _ kz => ?_
 rintro _ W ⟨p37, c37, rfl, o37, hb⟩
 refine ⟨_, rfl, kz _ _ hb fun I => ?_⟩
 have I := I.own o37
 rcases bTF ((((dig B32 S).length : Nat) : Int) == 0) with f40 | f40
 · refine zb I 40 ((((dig B32 S).length : Nat) : Int) == 0) (true) (f40) fun Al W I => zqo I (fun Al W I => have hzW := I.bel.size; (HO 1 (by omega) W).out) fun Al W p41 c41 I => zret I (v := fun Al => .tuple #[.agg #[.bool false, .slice none 0 0, .slice p41 (dig B32 1).length c41, vI 0], vI 0]) fun Al W I => ?_
   first | exact b0y (h2 (by have := oFa f16; omega) (by rw [hN.1, if_neg (by simpa using f26)])) rfl I.below | (rw [hrk.1, hrk.2, r0 (hS0.1 (by have := beq_iff_eq.1 f40; omega))]; exact w0z rfl I.fa.1 I.below)
 refine zb I 40 ((((dig B32 S).length : Nat) : Int) == 0) (false) (f40) fun Al W I => zg I (fun Al W I => have hzW := I.bel.size; (hod p37 c37 W I.fa.1.rd I.fa.1.le_cap (by omega) I.fa.2.1).out) fun Al V Iv _ hB _ kz => ?_
 rintro _ W ⟨p45, c45, rfl, o45, hb⟩
 refine ⟨_, rfl, kz _ _ hb fun I => ?_⟩
 have I := I.own o45
 refine zg I (fun Al W I => have hzW := I.bel.size; (HO 5 (by omega) W).out) fun Al V Iv _ hB _ kz => ?_
 rintro _ W ⟨p48, c48, rfl, o48, hb⟩
 refine ⟨_, rfl, kz _ _ hb fun I => ?_⟩
 have I := I.own o48
 refine zi I 51 .i64 (0 - pw) ((-pw)) ((by rw [Int.zero_sub]; exact iwo)) fun Al W I => zm I 52 .i64 (if ((-pw) : Int) > pw then (-pw) else pw) ((pw.natAbs : Int)) ((by omega)) fun Al W I => zg I (fun Al W I => have hzW := I.bel.size; (HPw p48 c48 pw.natAbs W _ I.fa.1 I.below.size (by omega)).out) fun Al V Iv _ hB _ kz => ?_
 rintro _ W ⟨p53, c53, rfl, o53, hb⟩
 refine ⟨_, rfl, kz _ _ hb fun I => ?_⟩
 have I := I.own o53
 refine zqo I (fun Al W I => have hzW := I.bel.size; (HO 1 (by omega) W).out) fun Al W p56 c56 I => zi I 59 .i64 ((z : Int) + pw) (((z : Int) + pw)) ((by exact iwo)) fun Al W I => ?_
 rcases bTF (decide (pw ≥ 0)) with f62 | f62
 · refine zb I 62 (decide (pw ≥ 0)) (true) (f62) fun Al W I => zqo I (fun Al W I => have hzW := I.bel.size; (HMu p45 p53 c45 c53 o (5 ^ pw.natAbs) W I.fa.2.2.2.1.rd I.fa.2.1.rd (by have := h5l pw.natAbs (by omega); omega)).out) fun Al W p65 c65 I => zret I (v := fun Al => .tuple #[.agg #[.bool g, .slice p65 (dig B32 (o * 5 ^ pw.natAbs)).length c65, .slice p56 (dig B32 1).length c56, vI ((z : Int) + pw)], vI 0]) fun Al W I => ?_
   first | exact b0y (h2 (by have := oFa f16; omega) (by rw [hN.1, if_neg (by simpa using f26)])) rfl I.below | (rw [hrk.1, hrk.2, r1 (fun h => by have := hS0.2 h; have := bnF f40; omega) (oTr f62)]; have e := oTr f62; rw [show pw.toNat = pw.natAbs by omega]; exact ⟨p65, c65, p56, c56, rfl, I.fa.1, I.fa.2.1, I.below⟩)
 refine zb I 62 (decide (pw ≥ 0)) (false) (f62) fun Al W I => g0e I (fun gk fr bx gs => ∃ (U900 : Nat → Value) (n : Nat) (P : Nat) (x : Int) (pn : OA) (cn : Nat), fr = (.v (.string t) :: .v undef :: .p 0 0 :: .v (vI 0) :: .v (.bool g) :: .v (.string (a0d ds)) :: .v (vI x) :: .v (.bool ok) :: .v (vS (dig B32 o) p45 c45) :: .v (vI (z : Int)) :: .v (vS (dig B32 (5 ^ pw.natAbs)) p53 c53) :: .p 1 0 :: sw U900 12 4 (.v (.bool false) :: sw U900 17 9 (.v (.bool false) :: sw U900 27 6 (.v (.bool false) :: sw U900 34 6 (.v (.bool false) :: sw U900 41 21 (.v (.bool false) :: sw U900 63 27 []))))) : List SV) ∧ bx = [⟨48, [.v (.bool false), .v (.slice none 0 0), .v (.slice none 0 0), .v (vI 0)], false⟩, ⟨48, [.v (.bool g), .v (vS (dig B32 n) pn cn), .v (vS (dig B32 1) p56 c56), .v (vI ((z : Int) + pw))], false⟩] ∧ gs = [ownF w.heap.size .u32 101 pn cn (dig B32 n), ownF w.heap.size .u32 101 p56 c56 (dig B32 1), tabF] ∧ (b0k n P = b0k o pw.natAbs) ∧ (P ≤ 6000) ∧ (x = -(P : Int)) ∧ ((dig B32 n).length ≤ 800) ∧ (gk = P)) pw.natAbs (fun Al W U I => ⟨_, ⟨U, o, pw.natAbs, pw, p45, c45, rfl, rfl, rfl, rfl, (by omega), (by have := oFa f62; omega), hol, rfl⟩, I.pick [3, 0, 5]⟩) ?_
 rintro J0 gk0 _ _ _ ⟨U900, n, P, x, pn, cn, rfl, rfl, rfl, hcf, hPl, hx, hnl, hgk⟩ hJ0 Al W I
 rcases bTF (decide (x < 0)) with f69 | f69
 · refine zb I 69 (decide (x < 0)) (true) (f69) fun Al W I => zd [] I fun Al W I => zk [0, 1] I fun I => zo 2 I fun I => zqo I (fun Al W I => have hzW := I.bel.size; (HO 5 (by omega) W).out) fun Al W p73 c73 I => zo 3 I fun I => zg I (fun Al W I => have hzW := I.bel.size; (HDv pn p73 cn c73 n W I.fa.2.1.rd I.fa.1.rd (by omega)).out) fun Al V Iv _ hB _ kz => ?_
   rintro _ W ⟨p74, c74, q74, d74, rfl, a74, b74, hb, -⟩
   refine ⟨_, rfl, kz _ _ hb fun I => ?_⟩
   have I := I.own a74
   have I := I.own b74
   refine zk [4, 5, 6, 7, 8] I fun I => ?_
   rcases bTF (decide ((((dig B32 (n % 5)).length : Nat) : Int) > 0)) with f79 | f79
   · refine zb I 79 (decide ((((dig B32 (n % 5)).length : Nat) : Int) > 0)) (true) (f79) fun Al W I => ?_
     have hfin := n0p (n := n) (P := P) (by exact .inr (by have := oTr f79; have := a0f a0a (n % 5); omega))
     rw [hcf] at hfin
     refine zqo I (fun Al W I => have hzW := I.bel.size; (HO 5 (by omega) W).out) fun Al W p84 c84 I => zi I 86 .i64 (0 - x) ((P : Int)) ((by rw [hx, show (0 : Int) - -(P : Int) = (P : Int) by omega]; exact iwo)) fun Al W I => zqo I (fun Al W I => have hzW := I.bel.size; (HPw p84 c84 P W _ I.fa.1 I.below.size (by omega)).out) fun Al W p87 c87 I => zret I (v := fun Al => .tuple #[.agg #[.bool g, .slice pn (dig B32 n).length cn, .slice p87 (dig B32 (5 ^ P)).length c87, vI ((z : Int) + pw)], vI 0]) fun Al W I => ?_
     first | exact b0y (h2 (by have := oFa f16; omega) (by rw [hN.1, if_neg (by simpa using f26)])) rfl I.below | (rw [hrk.1, hrk.2, r2 (fun h => by have := hS0.2 h; have := bnF f40; omega) (oFa f62) n P (by rw [← hfin]; have := oFa f62; congr 1; omega)]; exact ⟨pn, cn, p87, c87, rfl, I.fa.2.2.2.2.2.1, I.fa.1, I.below⟩)
   refine zb I 79 (decide ((((dig B32 (n % 5)).length : Nat) : Int) > 0)) (false) (f79) fun Al W I => zi I 82 .i64 (x + 1) ((x + 1)) ((by exact iwo)) fun Al W I => a0i I J0 fun Al W U I => hJ0 (P - 1) _ _ _ _ _ ((by have := oTr f69; omega)) ⟨U, n / 5, P - 1, x + 1, p74, c74, rfl, rfl, rfl, (by rw [← hcf]; exact (w0y (by have := oTr f69; omega) (by have := oFa f79; have := a0f a0a (n % 5); omega)).symm), (by omega), (by have := oTr f69; omega), (Nat.le_trans (a0j a0a (Nat.div_le_self _ _)) hnl), rfl⟩ (I.pick [1, 4, 5])
 refine zb I 69 (decide (x < 0)) (false) (f69) fun Al W I => ?_
 have hfin := n0p (n := n) (P := P) (by exact .inl (by have := oFa f69; omega))
 rw [hcf] at hfin
 refine zqo I (fun Al W I => have hzW := I.bel.size; (HO 5 (by omega) W).out) fun Al W p84 c84 I => zi I 86 .i64 (0 - x) ((P : Int)) ((by rw [hx, show (0 : Int) - -(P : Int) = (P : Int) by omega]; exact iwo)) fun Al W I => zqo I (fun Al W I => have hzW := I.bel.size; (HPw p84 c84 P W _ I.fa.1 I.below.size (by omega)).out) fun Al W p87 c87 I => zret I (v := fun Al => .tuple #[.agg #[.bool g, .slice pn (dig B32 n).length cn, .slice p87 (dig B32 (5 ^ P)).length c87, vI ((z : Int) + pw)], vI 0]) fun Al W I => ?_
 first | exact b0y (h2 (by have := oFa f16; omega) (by rw [hN.1, if_neg (by simpa using f26)])) rfl I.below | (rw [hrk.1, hrk.2, r2 (fun h => by have := hS0.2 h; have := bnF f40; omega) (oFa f62) n P (by rw [← hfin]; have := oFa f62; congr 1; omega)]; exact ⟨pn, cn, p87, c87, rfl, I.fa.2.2.1, I.fa.1, I.below⟩)
end Go.Proofs.YtpgomglbaacmdaaGreatDoor
namespace Go.Slip
open Go.RowKit
def e0l (c : Nat) (g : Bool) : List Nat := if c = 2 then [] else (if g then [45] else []) ++ (if c = 1 then [48] else if c = 3 then [105, 110, 102] else if c = 4 then [110, 111, 110, 101] else [114, 101, 115, 101, 114, 118, 101, 100])
def n0e (c : Nat) : List Nat := if c = 1 then [48] else if c = 3 then [105, 110, 102] else if c = 4 then [110, 111, 110, 101] else if c = 5 then [114, 101, 115, 101, 114, 118, 101, 100] else []
theorem h0p (c : Nat) (g : Bool) : Byt (e0l c g) := by
 unfold e0l
 intro x hx
 split at hx
 · exact (nomatch hx)
 · rcases List.mem_append.1 hx with h | h
   · split at h
     · simp at h; omega
     · exact (nomatch h)
   · repeat' split at h
     all_goals (simp at h; omega)
theorem b0z {c : Nat} {g : Bool} : e0l c g = [] ↔ c = 2 := by
 unfold e0l
 by_cases h : c = 2
 · rw [if_pos h]; exact iff_of_true rfl h
 · rw [if_neg h]
   refine iff_of_false (fun k => ?_) h
   have k2 := (List.append_eq_nil_iff.1 k).2
   repeat' split at k2
   all_goals cases k2
theorem o0b (n : Nat) : Byt (a0t n) := fun x hx => by have := h0h n x hx; omega
theorem i1b (p : Int) : Byt (e0m p) := by
 unfold e0m
 split
 · intro x hx
   rcases List.mem_cons.1 hx with rfl | hx
   · omega
   · exact o0b _ x hx
 · exact o0b _
end Go.Slip
namespace Go.Proofs.YtpgomglbaacmdaaGreatDoor
open Go.RowKit Go.Slip
theorem q1l (u : Int) (w : World) (hu : -100000 ≤ u ∧ u ≤ 100000) :
 Calls Tryz.prog 94 #[.int .i64 u] w fun en w' => ∃ p c q d, en = .returned (.tuple #[.slice p (dig B32 (10 ^ u.toNat)).length c, .slice q (dig B32 (10 ^ (-u).toNat)).length d]) ∧ Own w' w.heap.size .u32 101 p c (dig B32 (10 ^ u.toNat)) ∧ Own w' w.heap.size .u32 101 q d (dig B32 (10 ^ (-u).toNat)) ∧ Below w.heap.size w w' := by
 have HO := fun (k : Nat) hk W => hi0 (sof (k : Int) k rfl hk W)
 have HPw := fun p c K W base ho hb hK => hi0 (a1x base p c 10 K W ho hb (by omega) hK)
 have e1 : u < 0 → u.toNat = 0 ∧ (-u).toNat = u.natAbs := fun h => by omega
 have e2 : ¬ u < 0 → u.toNat = u.natAbs ∧ (-u).toNat = 0 := fun h => by omega
 have I := Inv.start w [] True.intro
 refine a0g [.v (.int .i64 u)] I Tryz.func94 ?_
 refine zqo I (fun Al W I => have hzW := I.bel.size; (HO 10 (by omega) W).out) fun Al W p5 c5 I => zi I 8 .i64 (0 - u) ((-u)) ((by rw [Int.zero_sub]; exact iwo)) fun Al W I => zm I 9 .i64 (if ((-u) : Int) > u then (-u) else u) ((u.natAbs : Int)) ((by omega)) fun Al W I => zqo I (fun Al W I => have hzW := I.bel.size; (HPw p5 c5 u.natAbs W _ I.fa.1 I.below.size (by omega)).out) fun Al W p10 c10 I => ?_
 rcases bTF (decide (u < 0)) with f12 | f12
 · refine zb I 12 (decide (u < 0)) (true) (f12) fun Al W I => zqo I (fun Al W I => have hzW := I.bel.size; (HO 1 (by omega) W).out) fun Al W p13 c13 I => zret I (v := fun Al => .tuple #[.slice p13 (dig B32 1).length c13, .slice p10 (dig B32 (10 ^ u.natAbs)).length c10]) fun Al W I => ?_
   (obtain ⟨h1, h2⟩ := e1 (oTr f12); rw [h1, h2, Nat.pow_zero]; exact ⟨p13, c13, p10, c10, rfl, I.fa.1, I.fa.2.1, I.below⟩)
 refine zb I 12 (decide (u < 0)) (false) (f12) fun Al W I => zqo I (fun Al W I => have hzW := I.bel.size; (HO 1 (by omega) W).out) fun Al W p16 c16 I => zret I (v := fun Al => .tuple #[.slice p10 (dig B32 (10 ^ u.natAbs)).length c10, .slice p16 (dig B32 1).length c16]) fun Al W I => ?_
 (obtain ⟨h1, h2⟩ := e2 (oFa f12); rw [h1, h2, Nat.pow_zero]; exact ⟨p10, c10, p16, c16, rfl, I.fa.2.1, I.fa.1, I.below⟩)
def q1m (w : World) (a b c : Nat) (en : Ending) (w' : World) : Prop :=
 ∃ p x q y r z, en = .returned (.tuple #[.slice p (dig B32 a).length x, .slice q (dig B32 b).length y, .slice r (dig B32 c).length z]) ∧ Own w' w.heap.size .u32 101 p x (dig B32 a) ∧ Own w' w.heap.size .u32 101 q y (dig B32 b) ∧ Own w' w.heap.size .u32 101 r z (dig B32 c) ∧ Below w.heap.size w w'
theorem z0j (g : Bool) (num : Nat) (E u : Int) (p q : OA) (a b : Nat) (w : World) (hp : Rd w .u32 p (dig B32 num)) (hq : Rd w .u32 q (dig B32 1)) (hl : (dig B32 num).length ≤ 1000) (hE : -100000 ≤ E ∧ E ≤ 100000) (hu : -100000 ≤ u ∧ u ≤ 100000) :
 Calls Tryz.prog 47 #[.agg #[.bool g, .slice p (dig B32 num).length a, .slice q (dig B32 1).length b, .int .i64 E], .int .i64 u] w (q1m w (q10 (numP num E) (denP 1 E) u) (r10 (numP num E) (denP 1 E) u) (d10 (denP 1 E) u)) := by
 have hN : num * 10 ^ u.toNat * 2 ^ E.toNat = n10 (numP num E) u := by unfold n10 numP; grind
 have hD : 1 * 10 ^ (-u).toNat * 2 ^ (-E).toNat = d10 (denP 1 E) u := by unfold d10 denP; grind
 have hd0 : 0 < d10 (denP 1 E) u := p0b (d0m (by omega) E) u
 have eq : q10 (numP num E) (denP 1 E) u = n10 (numP num E) u / d10 (denP 1 E) u := rfl
 have er : r10 (numP num E) (denP 1 E) u = n10 (numP num E) u % d10 (denP 1 E) u := rfl
 rw [eq, er, ← hN, ← hD]
 rw [← hD] at hd0
 clear eq er hN hD
 have l1 : (dig B32 1).length ≤ 1 := (a0h a0a 1 1).2 (by decide)
 have l10 : ∀ k : Nat, k ≤ 100000 → (dig B32 (10 ^ k)).length ≤ 100001 := fun k hk => g0m (K := 100001) a0a (by decide) (by omega) (by omega)
 have l2 : ∀ k : Nat, k ≤ 100000 → (dig B32 (2 ^ k)).length ≤ 100001 := fun k hk => g0m (K := 100001) a0a (by decide) (by omega) (by omega)
 have k1 := l10 u.toNat (by omega)
 have k2 := l10 (-u).toNat (by omega)
 have k3 := l2 E.toNat (by omega)
 have k4 := l2 (-E).toNat (by omega)
 have m1 := a0x a0a num (10 ^ u.toNat)
 have m2 := a0x a0a 1 (10 ^ (-u).toNat)
 have m3 := a0x a0a (num * 10 ^ u.toNat) (2 ^ E.toNat)
 have m4 := a0x a0a (1 * 10 ^ (-u).toNat) (2 ^ (-E).toNat)
 have HTn := fun W => hi0 (q1l u W hu)
 have e1 : E.toNat = 0 ∨ (E : Int) = (E.toNat : Nat) := by omega
 have e2 : 0 ≤ E → (-E).toNat = 0 := by omega
 have e3 : ¬ 0 ≤ E → E.toNat = 0 := by omega
 generalize 10 ^ u.toNat = U at *
 generalize 10 ^ (-u).toNat = V2 at *
 have HM1 := fun W r c h h2 => hi0 (t0r p r _ _ a c num U W h h2 rfl rfl (by omega))
 have HM2 := fun W r c h h2 => hi0 (t0r q r _ _ b c 1 V2 W h h2 rfl rfl (by omega))
 generalize num * U = X at *
 generalize 1 * V2 = Y at *
 have HS := fun W r c x (n : Nat) (M : Int) h (h1 : (dig B32 x).length ≤ 102001) (h2 : n ≤ 100000) h3 => hi0 (sshl r _ c x n (x * 2 ^ n) M W h rfl (by omega) (by omega) h3 rfl)
 have HDv := fun W r s c d x y h h2 (h3 : (dig B32 x).length ≤ 300000) (h4 : (dig B32 y).length ≤ 300000) h5 => hi0 (i0e r s _ _ c d x y W h h2 rfl rfl (by omega) (by omega) h5)
 have I := Inv.start w [rdF .u32 p (dig B32 num), rdF .u32 q (dig B32 1)] ⟨hp, hq, True.intro⟩
 refine a0g [.v (.agg #[.bool g, .slice p (dig B32 num).length a, .slice q (dig B32 1).length b, .int .i64 E]), .v (.int .i64 u)] I Tryz.func47 ?_
 refine zg I (fun Al W I => (HTn W).out) fun Al V Iv _ hB _ kz => ?_
 rintro _ W ⟨p15, c15, q15, d15, rfl, o15, r15, hb⟩
 refine ⟨_, rfl, kz _ _ hb fun I => ?_⟩
 have I := I.own o15
 have I := I.own r15
 refine zd [] I fun Al W I => zk [0, 1, 2, 4, 5, 6] I fun I => zo 3 I fun I => zqo I (fun Al W I => (HM1 W p15 c15 I.fa.2.2.1 I.fa.2.1.rd).out) fun Al W p21 c21 I => zo 7 I fun I => zqo I (fun Al W I => (HM2 W q15 d15 I.fa.2.2.2.2.1 I.fa.2.1.rd).out) fun Al W p25 c25 I => zk [8, 9] I fun I => ?_
 rcases bTF (decide (E ≥ 0)) with f28 | f28
 · refine zb I 28 (decide (E ≥ 0)) (true) (f28) fun Al W I => zqo I (fun Al W I => have hzW := I.bel.size; (HS W p21 c21 X E.toNat E I.fa.2.1.rd (by omega) (by omega) (by have := oTr f28; omega)).out) fun Al W p32 c32 I => zg I (fun Al W I => have hzW := I.bel.size; (HDv W p32 p25 c32 c25 (X * 2 ^ E.toNat) Y I.fa.1.rd I.fa.2.1.rd (by omega) (by omega) (by have h := e2 (oTr f28); rw [h, Nat.pow_zero, Nat.mul_one] at hd0; exact hd0)).out) fun Al V Iv _ hB _ kz => ?_
   rintro _ W ⟨p41, c41, q41, d41, rfl, o41, r41, hb, -⟩
   refine ⟨_, rfl, kz _ _ hb fun I => ?_⟩
   have I := I.own o41
   have I := I.own r41
   refine zret I (v := fun Al => .tuple #[.slice p41 (dig B32 (X * 2 ^ E.toNat / Y)).length c41, .slice q41 (dig B32 (X * 2 ^ E.toNat % Y)).length d41, .slice p25 (dig B32 Y).length c25]) fun Al W I => ?_
   (have h := e2 (oTr f28); rw [h, Nat.pow_zero, Nat.mul_one]; exact ⟨p41, c41, q41, d41, p25, c25, rfl, I.fa.2.1, I.fa.1, I.fa.2.2.2.1, I.below⟩)
 refine zb I 28 (decide (E ≥ 0)) (false) (f28) fun Al W I => zi I 36 .i64 (0 - E) ((-E)) ((by rw [Int.zero_sub]; exact iwo)) fun Al W I => zqo I (fun Al W I => have hzW := I.bel.size; (HS W p25 c25 Y (-E).toNat (-E) I.fa.1.rd (by omega) (by omega) (by have := oFa f28; omega)).out) fun Al W p37 c37 I => zg I (fun Al W I => have hzW := I.bel.size; (HDv W p21 p37 c21 c37 X (Y * 2 ^ (-E).toNat) I.fa.2.2.1.rd I.fa.1.rd (by omega) (by omega) hd0).out) fun Al V Iv _ hB _ kz => ?_
 rintro _ W ⟨p41, c41, q41, d41, rfl, o41, r41, hb, -⟩
 refine ⟨_, rfl, kz _ _ hb fun I => ?_⟩
 have I := I.own o41
 have I := I.own r41
 refine zret I (v := fun Al => .tuple #[.slice p41 (dig B32 (X / (Y * 2 ^ (-E).toNat))).length c41, .slice q41 (dig B32 (X % (Y * 2 ^ (-E).toNat))).length d41, .slice p37 (dig B32 (Y * 2 ^ (-E).toNat)).length c37]) fun Al W I => ?_
 (have h := e3 (oFa f28); rw [h, Nat.pow_zero, Nat.mul_one]; exact ⟨p41, c41, q41, d41, p37, c37, rfl, I.fa.2.1, I.fa.1, I.fa.2.2.1, I.below⟩)
theorem d1h (n : Int) (v : Vl) (p : OA) (c base : Nat) (w : World) (hp : Own w base .u32 101 p c (dig B32 v.d)) (hpw : -100000 ≤ v.pow ∧ v.pow ≤ 100000) :
 Calls Tryz.prog 12 #[.int .i64 n, .agg #[.int .i64 (v.cls : Int), .bool v.neg, .slice p (dig B32 v.d).length c, .int .i64 v.pow]] w fun en w' => ∃ q d, en = .returned (.agg #[.bool v.neg, .slice p (dig B32 v.d).length c, .slice q (dig B32 1).length d, .int .i64 (wid (fmt n).g * v.pow)]) ∧ Own w' w.heap.size .u32 101 q d (dig B32 1) ∧ Below w.heap.size w w' := by
 have HG := fun W => hi0 (b1b n W)
 have HO := fun (k : Nat) hk W => hi0 (sof (k : Int) k rfl hk W)
 have wp := b0f (fmt n).g
 have hw : wid (fmt n).g = if (fmt n).g.rad = 16 then 4 else 1 := rfl
 have hm := j0d (wd := wid (fmt n).g) (k := v.pow) (B := 100000) wp.2 hpw
 generalize wid (fmt n).g = wd at *
 generalize (fmt n).g = gg at *
 generalize d0p n = er at *
 obtain ⟨bb, hbb⟩ : ∃ bb, (gg.rad == 16) = bb := ⟨_, rfl⟩
 have I := Inv.start w [ownF base .u32 101 p c (dig B32 v.d)] ⟨hp, True.intro⟩
 refine a0g [.v (.int .i64 n), .v (.agg #[.int .i64 (v.cls : Int), .bool v.neg, .slice p (dig B32 v.d).length c, .int .i64 v.pow])] I Tryz.func12 ?_
 refine zq I (fun Al W I => (HG W).out) fun Al W I => zb I 15 (gg.rad == 16) (bb) (hbb) fun Al W I => zcut I (some 2000015) (fun fr bx gs => ∃ (U1 : Nat → Value) (k : Int), fr = (.v (vI n) :: .v (.agg #[vI (v.cls : Int), .bool v.neg, vS (dig B32 v.d) p c, vI v.pow]) :: vu :: .p 0 0 :: .p 1 0 :: .p 2 0 :: .v (U1 6) :: .v (vI k) :: sw U1 8 7 (.v (.bool bb) :: sw U1 16 10 []) : List SV) ∧ bx = [⟨39, [.v (vI (v.cls : Int)), .v (.bool v.neg), .v (vS (dig B32 v.d) p c), .v (vI v.pow)], false⟩, ⟨48, [.v (.bool false), .v (.slice none 0 0), .v (.slice none 0 0), .v (vI 0)], false⟩, ⟨44, [.v (vI gg.rad), .v (vI gg.digs), .v (vI gg.lo), .v (vI gg.hi), .v (.bool gg.grad)], false⟩] ∧ gs = [ownF base .u32 101 p c (dig B32 v.d)] ∧ ((wd : Int) = k)) ?_ ?_
 · intro J hJ Al W I
   rcases bTF bb with rfl | rfl
   · exact a0i I J fun Al W U I => hJ _ _ _ _ _ ⟨U, 4, rfl, rfl, rfl, (by rw [hw, if_pos (beq_iff_eq.1 hbb)]; rfl)⟩ (I.pick [0])
   exact a0i I J fun Al W U I => hJ _ _ _ _ _ ⟨U, 1, rfl, rfl, rfl, (by rw [hw, if_neg (bnF hbb)]; rfl)⟩ (I.pick [0])
 rintro _ _ _ ⟨U1, k, rfl, rfl, rfl, hk⟩ Al W I
 refine zd [1] I fun Al W I => zk [0, 1, 2, 3, 5, 6, 7] I fun I => zki 8 I .i64 (k * v.pow) (((wd : Int) * v.pow)) ((by rw [← hk]; exact iwo)) fun I => zo 4 I fun I => zqo I (fun Al W I => have hzW := I.bel.size; (HO 1 (by omega) W).out) fun Al W p20 c20 I => zk [9] I fun I => zo 10 I fun I => zn I fun Al W I => zret I fun Al W I => ⟨p20, c20, rfl, I.fa.1, I.below⟩
theorem u0k (g : Bool) (s : List Nat) (p : Int) (w : World) (hs : Byt s) (h0 : s ≠ []) (hl : s.length ≤ 100) (hp : -100000 < p ∧ p < 100000) (hT : PowW w) :
 Calls Tryz.prog 15 #[.bool g, .string (a0d s), .int .i64 p] w fun en w' => en = .returned (.string (a0d (numT g s p))) ∧ Below w.heap.size w w' := by
 have hz := a0k s
 have h1 := h0b hs 0 1
 have h2 : (a0d s).extract 1 (a0d s).size = a0d (s.drop 1) := by rw [h0b hs, hz, List.take_length]
 have hI := fun W h => hi0 (l1w p (by omega) W h)
 have hil : (e0m p).length ≤ 6 := by
  have h : (a0t p.natAbs).length ≤ 5 := (b0e _ 5 (by omega)).2 (by omega)
  unfold e0m
  split
  · rw [List.length_cons, show (-p).toNat = p.natAbs by omega]; omega
  · rw [show p.toNat = p.natAbs by omega]; omega
 have hl0 : 0 < s.length := List.length_pos_iff.2 h0
 have ha : (s.take 1).length = 1 := by rw [List.length_take]; omega
 have hb : (s.drop 1).length = s.length - 1 := by rw [List.length_drop]
 have eN : numT g s p = (if g then [45] else []) ++ (s.take 1 ++ ((if 1 < s.length then 46 :: s.drop 1 else []) ++ 101 :: e0m p)) := rfl
 rw [List.drop_zero] at h1
 generalize s.take 1 = a at *
 generalize s.drop 1 = b at *
 generalize e0m p = ip at *
 generalize a0d s = S at *
 obtain ⟨q, hq⟩ : ∃ q, decide ((S.size : Int) > 1) = q := ⟨_, rfl⟩
 have I := Inv.start w [powF] ⟨hT, True.intro⟩
 refine a0g [.v (.bool g), .v (.string S), .v (.int .i64 p)] I Tryz.func15 ?_
 refine zx I 9 (fun _ => .string (a0d a)) (fun Al W I => (by rw [← h1]; exact g0q uSt (.inl ⟨rfl, rfl⟩) (.inr rfl) (Nat.zero_le _) (by omega))) fun Al W I => zb I 12 (decide ((S.size : Int) > 1)) (q) (hq) fun Al W I => zcut I (some 2000012) (fun fr bx gs => ∃ (U1 : Nat → Value) (Y : LN), fr = (.v (.bool g) :: .v (.string S) :: .v (vI p) :: su 3 (.v (Go.Value.string (ByteArray.mk #[])) :: .v (.string (a0d Y)) :: sw U1 8 4 (.v (.bool q) :: sw U1 13 5 (vu :: sw U1 19 7 []))) : List SV) ∧ bx = [] ∧ gs = [powF] ∧ (Y = a ++ (if 1 < s.length then 46 :: b else [])) ∧ (Y.length ≤ 200)) ?_ ?_
 · intro J hJ Al W I
   rcases bTF q with rfl | rfl
   · refine zx I 15 (fun _ => .string (a0d b)) (fun Al W I => (by rw [← h2]; exact g0q uSt (.inr rfl) (.inl ⟨rfl, rfl⟩) (by omega) (Nat.le_refl _))) fun Al W I => zbin I 16 _ (fun _ _ _ _ _ => (c0l [46] b (by simp; omega))) fun Al W I => zbin I 17 _ (fun _ _ _ _ _ => (c0l a (46 :: b) (by simp; omega))) fun Al W I => a0i I J fun Al W U I => hJ _ _ _ _ _ ⟨U, (a ++ 46 :: b), rfl, rfl, rfl, (by rw [if_pos (by have := oTr hq; omega)]), (by rw [List.length_append, List.length_cons]; omega)⟩ (I.pick [0])
   exact a0i I J fun Al W U I => hJ _ _ _ _ _ ⟨U, a, rfl, rfl, rfl, (by rw [if_neg (by have := oFa hq; omega), List.append_nil]), (by omega)⟩ (I.pick [0])
 rintro _ _ _ ⟨U1, Y, rfl, rfl, rfl, hY, hYl⟩ Al W I
 refine zcut I (some 2000018) (fun fr bx gs => ∃ (U2 : Nat → Value) (X : LN), fr = (.v (.bool g) :: .v (.string S) :: .v (vI p) :: su 3 (.v (Go.Value.string (ByteArray.mk #[])) :: .v (.string (a0d X)) :: sw U2 8 4 (.v (.bool q) :: sw U2 13 5 (.v (.bool g) :: sw U2 19 7 []))) : List SV) ∧ bx = [] ∧ gs = [powF] ∧ (X ++ 101 :: ip = numT g s p) ∧ (X.length ≤ 300)) ?_ ?_
 · intro J hJ Al W I
   rcases bTF g with rfl | rfl
   · refine zbin I 20 _ (fun _ _ _ _ _ => (c0l [45] Y (by simp; omega))) fun Al W I => a0i I J fun Al W U I => hJ _ _ _ _ _ ⟨U, (45 :: Y), rfl, rfl, rfl, (by rw [eN, if_pos rfl, hY]; simp), (by rw [List.length_cons]; omega)⟩ (I.pick [0])
   exact a0i I J fun Al W U I => hJ _ _ _ _ _ ⟨U, Y, rfl, rfl, rfl, (by rw [eN, if_neg Bool.false_ne_true, hY]; simp), (by omega)⟩ (I.pick [0])
 rintro _ _ _ ⟨U2, X, rfl, rfl, rfl, hX, hXl⟩ Al W I
 refine zbin I 22 _ (fun _ _ _ _ _ => (c0l X [101] (by simp; omega))) fun Al W I => zq I (fun Al W I => (hI W I.fa.1).out) fun Al W I => zbin I 25 _ (fun _ _ _ _ _ => (c0l (X ++ [101]) ip (by simp; omega))) fun Al W I => zret I (v := fun Al => .string (a0d (X ++ [101] ++ ip))) fun Al W I => ⟨by rw [← hX]; simp, I.below⟩
theorem l1z (a b : Vl) (p q : OA) (c d b1 b2 : Nat) (w : World) (hp : Own w b1 .u32 101 p c (dig B32 a.d)) (hq : Own w b2 .u32 101 q d (dig B32 b.d)) (h1 : (dig B32 a.d).length ≤ 100000) (h2 : (dig B32 b.d).length ≤ 100000) :
 Calls Tryz.prog 18 #[.agg #[.int .i64 (a.cls : Int), .bool a.neg, .slice p (dig B32 a.d).length c, .int .i64 a.pow], .agg #[.int .i64 (b.cls : Int), .bool b.neg, .slice q (dig B32 b.d).length d, .int .i64 b.pow]] w fun en w' => en = .returned (.bool (decide (a.cls = b.cls ∧ a.neg = b.neg ∧ a.pow = b.pow ∧ a.d = b.d))) ∧ Below w.heap.size w w' := by
 have HC := fun W hp hq => hi0 (f0m p q _ _ c d a.d b.d W hp hq rfl rfl (by omega) (by omega))
 have hc : cmpN a.d b.d = 0 ↔ a.d = b.d := ⟨p0m, fun h => by rw [h, o0e]⟩
 obtain ⟨ac, an, ad, ap⟩ := a
 obtain ⟨bc, bn, bd, bp⟩ := b
 simp only at HC hc hp hq h1 h2 ⊢
 generalize cmpN ad bd = k at *
 have I := Inv.start w [ownF b1 .u32 101 p c (dig B32 ad), ownF b2 .u32 101 q d (dig B32 bd)] ⟨hp, hq, True.intro⟩
 refine a0g [.v (.agg #[.int .i64 (ac : Int), .bool an, .slice p (dig B32 ad).length c, .int .i64 ap]), .v (.agg #[.int .i64 (bc : Int), .bool bn, .slice q (dig B32 bd).length d, .int .i64 bp])] I Tryz.func18 ?_
 refine zcut I (some 3000001) (fun fr bx gs => ∃ (U1 : Nat → Value) (r : Bool), fr = (.v (.agg #[vI (ac : Int), .bool an, vS (dig B32 ad) p c, vI ap]) :: .v (.agg #[vI (bc : Int), .bool bn, vS (dig B32 bd) q d, vI bp]) :: .p 0 0 :: .p 1 0 :: .v (.bool r) :: sw U1 5 27 [] : List SV) ∧ bx = [⟨39, [.v (vI (ac : Int)), .v (.bool an), .v (vS (dig B32 ad) p c), .v (vI ap)], false⟩, ⟨39, [.v (vI (bc : Int)), .v (.bool bn), .v (vS (dig B32 bd) q d), .v (vI bp)], false⟩] ∧ gs = [ownF b1 .u32 101 p c (dig B32 ad), ownF b2 .u32 101 q d (dig B32 bd)] ∧ (r = decide (ac = bc ∧ an = bn ∧ ap = bp ∧ ad = bd))) ?_ ?_
 · intro J hJ Al W I
   rcases bTF ((ac : Int) == (bc : Int)) with f9 | f9
   · refine zb I 9 ((ac : Int) == (bc : Int)) (true) (f9) fun Al W I => ?_
     rcases bTF (an == bn) with f15 | f15
     · refine zb I 15 (an == bn) (true) (f15) fun Al W I => ?_
       rcases bTF (ap == bp) with f22 | f22
       · refine zb I 22 (ap == bp) (true) (f22) fun Al W I => zq I (fun Al W I => (HC W I.fa.1.rd I.fa.2.1.rd).out) fun Al W I => ?_
         rcases bTF (k == 0) with f30 | f30
         · refine zb I 30 (k == 0) (true) (f30) fun Al W I => a0i I J fun Al W U I => hJ _ _ _ _ _ ⟨U, true, rfl, rfl, rfl, (by exact (decide_eq_true ⟨by have := beq_iff_eq.1 f9; omega, beq_iff_eq.1 f15, beq_iff_eq.1 f22, hc.1 (beq_iff_eq.1 f30)⟩).symm)⟩ (I.pick [0, 1])
         refine zb I 30 (k == 0) (false) (f30) fun Al W I => a0i I J fun Al W U I => hJ _ _ _ _ _ ⟨U, false, rfl, rfl, rfl, (by exact (dFa (fun h => bnF f30 (hc.2 h.2.2.2))).symm)⟩ (I.pick [0, 1])
       refine zb I 22 (ap == bp) (false) (f22) fun Al W I => a0i I J fun Al W U I => hJ _ _ _ _ _ ⟨U, false, rfl, rfl, rfl, (by exact (dFa (fun h => bnF f22 h.2.2.1)).symm)⟩ (I.pick [0, 1])
     refine zb I 15 (an == bn) (false) (f15) fun Al W I => a0i I J fun Al W U I => hJ _ _ _ _ _ ⟨U, false, rfl, rfl, rfl, (by exact (dFa (fun h => bnF f15 h.2.1)).symm)⟩ (I.pick [0, 1])
   refine zb I 9 ((ac : Int) == (bc : Int)) (false) (f9) fun Al W I => a0i I J fun Al W U I => hJ _ _ _ _ _ ⟨U, false, rfl, rfl, rfl, (by exact (dFa (fun h => by have := bnF f9; have := h.1; omega)).symm)⟩ (I.pick [0, 1])
 rintro _ _ _ ⟨U1, r, rfl, rfl, rfl, hr⟩ Al W I
 exact zret I (v := fun Al => .bool r) fun Al W I => ⟨by rw [hr], I.below⟩
theorem s0b : Tryz.prog.underlying 92 = some (.map 3 9) := by kernel_rfl
theorem i1c (c : Nat) : (∃ i, Instr.findNow (.int .i64) (.int .i64 (c : Int)) [⟨.int .i64 1, .string ⟨#[48]⟩, 0⟩, ⟨.int .i64 3, .string ⟨#[105, 110, 102]⟩, 1⟩, ⟨.int .i64 4, .string ⟨#[110, 111, 110, 101]⟩, 2⟩, ⟨.int .i64 5, .string ⟨#[114, 101, 115, 101, 114, 118, 101, 100]⟩, 3⟩] 0 = some (some (i, .string (a0d (n0e c))))) ∨ (n0e c = [] ∧ Instr.findNow (.int .i64) (.int .i64 (c : Int)) [⟨.int .i64 1, .string ⟨#[48]⟩, 0⟩, ⟨.int .i64 3, .string ⟨#[105, 110, 102]⟩, 1⟩, ⟨.int .i64 4, .string ⟨#[110, 111, 110, 101]⟩, 2⟩, ⟨.int .i64 5, .string ⟨#[114, 101, 115, 101, 114, 118, 101, 100]⟩, 3⟩] 0 = some none) := by
 by_cases h1 : c = 1
 · subst h1; exact .inl ⟨0, rfl⟩
 by_cases h3 : c = 3
 · subst h3; exact .inl ⟨1, rfl⟩
 by_cases h4 : c = 4
 · subst h4; exact .inl ⟨2, rfl⟩
 by_cases h5 : c = 5
 · subst h5; exact .inl ⟨3, rfl⟩
 refine .inr ⟨by unfold n0e; rw [if_neg h1, if_neg h3, if_neg h4, if_neg h5], ?_⟩
 have e1 : ((c : Int) == 1) = false := bFn (by omega)
 have e3 : ((c : Int) == 3) = false := bFn (by omega)
 have e4 : ((c : Int) == 4) = false := bFn (by omega)
 have e5 : ((c : Int) == 5) = false := bFn (by omega)
 simp only [Instr.findNow, Instr.sameNow, e1, e3, e4, e5, if_true]
theorem i1d {W : World} {b c : Nat} (hb : W.heap[b]? = some (.map #[⟨.int .i64 1, .string ⟨#[48]⟩, 0⟩, ⟨.int .i64 3, .string ⟨#[105, 110, 102]⟩, 1⟩, ⟨.int .i64 4, .string ⟨#[110, 111, 110, 101]⟩, 2⟩, ⟨.int .i64 5, .string ⟨#[114, 101, 115, 101, 114, 118, 101, 100]⟩, 3⟩] 4)) : (VO.lk 92 (.map (some b)) (.int .i64 (c : Int)) false).sem.run Tryz.prog W = .ok (.string (a0d (n0e c))) W := by
 rcases i1c c with h | ⟨h1, h2⟩
 · exact t1b s0b Tryz.underlying3 hb _ h
 · rw [h1]
   exact j0c s0b Tryz.underlying3 hb _ (by kernel_rfl) h2
theorem m1a (v : Vl) (p : OA) (c base : Nat) (w : World) (hp : Own w base .u32 101 p c (dig B32 v.d)) (hc : 1 ≤ v.cls ∧ v.cls ≤ 5) (hT : TabW w) :
 Calls Tryz.prog 10 #[.agg #[.int .i64 (v.cls : Int), .bool v.neg, .slice p (dig B32 v.d).length c, .int .i64 v.pow]] w fun en w' => en = .returned (.string (a0d (e0l v.cls v.neg))) ∧ Below w.heap.size w w' := by
 have HF := fun W b h => hi0 (@i1d W b v.cls h)
 have hw : e0l v.cls v.neg = if v.cls = 2 then [] else (if v.neg then [45] else []) ++ n0e v.cls := by
  unfold e0l n0e
  by_cases h2 : v.cls = 2
  · rw [if_pos h2, if_pos h2]
  · rw [if_neg h2, if_neg h2]
    congr 1
    by_cases h1 : v.cls = 1
    · rw [if_pos h1, if_pos h1]
    · by_cases h3 : v.cls = 3
      · rw [if_neg h1, if_neg h1, if_pos h3, if_pos h3]
      · by_cases h4 : v.cls = 4
        · rw [if_neg h1, if_neg h1, if_neg h3, if_neg h3, if_pos h4, if_pos h4]
        · rw [if_neg h1, if_neg h1, if_neg h3, if_neg h3, if_neg h4, if_neg h4, if_pos (by omega)]
 have h2 : v.cls = 2 → n0e v.cls = [] := fun h => by rw [h]; rfl
 have hl : (n0e v.cls).length ≤ 8 := by
  unfold n0e
  repeat' split
  all_goals decide
 generalize n0e v.cls = S at *
 generalize e0l v.cls v.neg = R at *
 have I := Inv.start w [ownF base .u32 101 p c (dig B32 v.d), tabF] ⟨hp, hT, True.intro⟩
 refine a0g [.v (.agg #[.int .i64 (v.cls : Int), .bool v.neg, .slice p (dig B32 v.d).length c, .int .i64 v.pow])] I Tryz.func10 ?_
 refine zmkm I 92 fun Al W m4_b m4_ge I => zins I s0b Tryz.underlying3 1 (Go.Value.string (ByteArray.mk #[48])) m4_ge (fun Al W I => ⟨u0c I.fa.1 I.fa.2.1, fun e => by have h2 := hT.2; have e : 0 = m4_b := e; have h3 := m4_ge; omega, True.intro⟩) fun Al W I => zins I s0b Tryz.underlying3 3 (Go.Value.string (ByteArray.mk #[105, 110, 102])) m4_ge (fun Al W I => ⟨u0c I.fa.1 I.fa.2.1, fun e => by have h2 := hT.2; have e : 0 = m4_b := e; have h3 := m4_ge; omega, True.intro⟩) fun Al W I => zins I s0b Tryz.underlying3 4 (Go.Value.string (ByteArray.mk #[110, 111, 110, 101])) m4_ge (fun Al W I => ⟨u0c I.fa.1 I.fa.2.1, fun e => by have h2 := hT.2; have e : 0 = m4_b := e; have h3 := m4_ge; omega, True.intro⟩) fun Al W I => zins I s0b Tryz.underlying3 5 (Go.Value.string (ByteArray.mk #[114, 101, 115, 101, 114, 118, 101, 100])) m4_ge (fun Al W I => ⟨u0c I.fa.1 I.fa.2.1, fun e => by have h2 := hT.2; have e : 0 = m4_b := e; have h3 := m4_ge; omega, True.intro⟩) fun Al W I => zx I 8 (fun _ => .string (a0d S)) (fun Al W I => (HF _ _ I.fa.1).out) fun Al W I => ?_
 rcases bTF (v.neg) with f11 | f11
 · refine zb I 11 (v.neg) (true) (f11) fun Al W I => ?_
   rcases bTF ((v.cls : Int) != 2) with f14 | f14
   · refine zb I 14 ((v.cls : Int) != 2) (true) (f14) fun Al W I => zbin I 17 _ (fun _ _ _ _ _ => (c0l [45] S (by simp; omega))) fun Al W I => zret I (v := fun Al => .string (a0d (45 :: S))) fun Al W I => ?_
     first | (rw [hw, if_neg (fun h => by have := bne_iff_ne.1 f14; omega), f11]; exact ⟨rfl, I.below⟩) | (have h := h2 (by have : (v.cls : Int) = 2 := (by simpa using f14); omega); rw [hw, if_pos (by have : (v.cls : Int) = 2 := (by simpa using f14); omega), h]; exact ⟨rfl, I.below⟩) | (rw [hw, f11]; by_cases h : v.cls = 2; (rw [if_pos h, h2 h]; exact ⟨rfl, I.below⟩); rw [if_neg h]; exact ⟨rfl, I.below⟩)
   refine zb I 14 ((v.cls : Int) != 2) (false) (f14) fun Al W I => zret I (v := fun Al => .string (a0d S)) fun Al W I => ?_
   first | (have h := h2 (by have : (v.cls : Int) = 2 := (by simpa using f14); omega); rw [hw, if_pos (by have : (v.cls : Int) = 2 := (by simpa using f14); omega), h]; exact ⟨rfl, I.below⟩) | (rw [hw, f11]; by_cases h : v.cls = 2; (rw [if_pos h, h2 h]; exact ⟨rfl, I.below⟩); rw [if_neg h]; exact ⟨rfl, I.below⟩)
 refine zb I 11 (v.neg) (false) (f11) fun Al W I => zret I (v := fun Al => .string (a0d S)) fun Al W I => ?_
 (rw [hw, f11]; by_cases h : v.cls = 2; (rw [if_pos h, h2 h]; exact ⟨rfl, I.below⟩); rw [if_neg h]; exact ⟨rfl, I.below⟩)
end Go.Proofs.YtpgomglbaacmdaaGreatDoor
namespace Go.Slip
open Go.RowKit
theorem i1e {N D k : Nat} {P : Int} (h : theP N D = P) : decM N D k = if k < (a0t (dT N D (k - 1 - P))).length then ((a0t (dT N D (k - 1 - P))).take k, P + 1) else (a0t (dT N D (k - 1 - P)), P) := by subst h; rfl
theorem t1k {x : Int} (h : -40000 ≤ x ∧ x ≤ 40000) : -20000 ≤ (x * 30103).tdiv 100000 ∧ (x * 30103).tdiv 100000 ≤ 20000 := by
 rcases Int.le_total 0 x with h1 | h1
 · rw [Int.tdiv_eq_ediv_of_nonneg (by omega)]; omega
 · rw [show x * 30103 = -((-x) * 30103) by omega, Int.neg_tdiv, Int.tdiv_eq_ediv_of_nonneg (by omega)]; omega
end Go.Slip
namespace Go.Proofs.YtpgomglbaacmdaaGreatDoor
open Go.RowKit Go.Slip
theorem q1n (n : Nat) : bits .and .u32 ((dg (dig B32 n) 0 : Nat) : Int) 1 = ((n % 2 : Nat) : Int) := by
 have h0 : dg (dig B32 n) 0 = n % 4294967296 := by
  by_cases h : n = 0
  · subst h; rw [a0c]; rfl
  · rw [c0d a0a (by omega)]; rfl
 rw [h0]
 have h := u32_and_nat (n % 4294967296) 1 (by omega) (by omega)
 rw [show ((1 : Nat) : Int) = 1 from rfl] at h
 rw [h, Nat.and_one_is_mod]
 omega
theorem x0b (g : Bool) (num : Nat) (E : Int) (k : Nat) (p q : OA) (a b b1 b2 : Nat) (w : World) (hp : Own w b1 .u32 101 p a (dig B32 num)) (hq : Own w b2 .u32 101 q b (dig B32 1)) (h0 : 0 < num) (hl : (dig B32 num).length ≤ 100) (hE : -30000 ≤ E ∧ E ≤ 30000) (hk : 1 ≤ k ∧ k ≤ 100) :
 Calls Tryz.prog 14 #[.agg #[.bool g, .slice p (dig B32 num).length a, .slice q (dig B32 1).length b, .int .i64 E], .int .i64 (k : Int)] w fun en w' => en = .returned (.tuple #[.string (a0d (decM (numP num E) (denP 1 E) k).1), .int .i64 (decM (numP num E) (denP 1 E) k).2]) ∧ Below w.heap.size w w' := by
 have hN0 : 0 < numP num E := j0r h0 E
 have hD0 : 0 < denP 1 E := d0m (by omega) E
 have hP := k0r hN0 hD0
 have hbd := hP.bd hD0
 have hlong := fun x => hP.long hD0 hk.1 x
 have hshort := fun x => hP.short hD0 hk.1 x
 have hdec := i1e (k := k) (rfl : theP (numP num E) (denP 1 E) = _)
 have hlo : 0 < q10 (numP num E) (denP 1 E) (k - 1 - theP (numP num E) (denP 1 E)) := Nat.lt_of_lt_of_le (c0q (k - 1)) ((i0v hD0 _ _).2 ((hP.iff _).2 (by omega)))
 have HSc := fun u W hp hq hu => hi0 (z0j g num E u p q a b W hp hq (by omega) (by omega) hu)
 have bn := c0o num
 have bN : blen (numP num E) ≤ 33300 := by
  refine Nat.le_trans ((a0u _ (blen num + E.toNat)).2 ?_) (by omega)
  unfold numP
  have h1 := (a0u num _).1 (Nat.le_refl _)
  calc num * 2 ^ E.toNat < 2 ^ blen num * 2 ^ E.toNat := Nat.mul_lt_mul_of_pos_right h1 (Nat.pow_pos (by omega))
   _ = 2 ^ (blen num + E.toNat) := (Nat.pow_add _ _ _).symm
 have bD : blen (denP 1 E) ≤ 30001 := by
  refine Nat.le_trans ((a0u _ ((-E).toNat + 1)).2 ?_) (by omega)
  unfold denP
  rw [Nat.one_mul]
  exact Nat.pow_lt_pow_right (by omega) (by omega)
 have hql : ∀ u : Int, -100000 ≤ u ∧ u ≤ 100000 → (dig B32 (q10 (numP num E) (denP 1 E) u)).length ≤ 200000 ∧ (dig B32 (d10 (denP 1 E) u)).length ≤ 200000 := fun u hu => by
  have l10 : ∀ j : Nat, j ≤ 100000 → (dig B32 (10 ^ j)).length ≤ 100001 := fun j hj => g0m (K := 100001) a0a (by decide) (by omega) (by omega)
  have k1 := l10 u.toNat (by omega)
  have k2 := l10 (-u).toNat (by omega)
  have m1 := a0x a0a (numP num E) (10 ^ u.toNat)
  have m2 := a0x a0a (denP 1 E) (10 ^ (-u).toNat)
  have c1 := a1p _ _ bN
  have c2 := a1p _ _ bD
  refine ⟨Nat.le_trans (a0j a0a (Nat.div_le_self _ _)) ?_, ?_⟩
  · unfold n10; omega
  · unfold d10; omega
 have hrl : ∀ u : Int, r10 (numP num E) (denP 1 E) u < d10 (denP 1 E) u := fun u => Nat.mod_lt _ (p0b hD0 u)
 have hdT : ∀ u, dT (numP num E) (denP 1 E) u = q10 (numP num E) (denP 1 E) u + if upT (numP num E) (denP 1 E) u then 1 else 0 := fun u => rfl
 have hup : ∀ u, upT (numP num E) (denP 1 E) u = decide (0 < cmpN (r10 (numP num E) (denP 1 E) u * 2) (d10 (denP 1 E) u) ∨ (cmpN (r10 (numP num E) (denP 1 E) u * 2) (d10 (denP 1 E) u) = 0 ∧ q10 (numP num E) (denP 1 E) u % 2 = 1)) := fun u => by unfold upT; rw [Bool.decide_or, Bool.decide_and]
 have hP2 : -12000 ≤ theP (numP num E) (denP 1 E) ∧ theP (numP num E) (denP 1 E) ≤ 12000 := by omega
 generalize decM (numP num E) (denP 1 E) k = R at *
 generalize theP (numP num E) (denP 1 E) = P at *
 clear hbd bN bD hN0 hD0 hP
 generalize numP num E = N at *
 generalize denP 1 E = D at *
 have HL := fun W p c x h hl => hi0 ((i0z p _ c x W h rfl hl).mono fun _ _ ⟨h1, h2⟩ => ⟨h1, h2 ▸ Below.refl _ _⟩ : Calls Tryz.prog 40 #[.slice p (dig B32 x).length c] W fun en W' => en = .returned (.int .i64 ((blen x : Nat) : Int)) ∧ Below W.heap.size W W')
 have HDe := fun W p c x h hl => hi0 (z0b p _ c x W h rfl hl)
 have HSh := fun W p c x h hl => hi0 (sshl p _ c x 1 (x * 2) 1 W h rfl hl (by omega) rfl (by rw [Nat.pow_one]))
 have HCm := fun W p q c d x y h h2 hl hl2 => hi0 (f0m p q _ _ c d x y W h h2 rfl rfl hl hl2)
 have HO := fun W => hi0 (sof 1 1 rfl (by omega) W)
 have HAd := fun W p q c d x h h2 hl => hi0 (sadd p q _ _ c d x 1 _ W h h2 rfl rfl hl (Nat.le_trans ((a0h a0a 1 1).2 (by decide)) (by omega)) rfl)
 have l1 := (a0u 1 1).2 (by decide)
 have d1 : (dig B32 1).length ≤ 1 := (a0h a0a 1 1).2 (by decide)
 have hes := fun x h => @t1k x h
 let aA : Box := ⟨48, [.v (.bool g), .v (.slice p (dig B32 num).length a), .v (.slice q (dig B32 1).length b), .v (.int .i64 E)], false⟩
 let aB : SV := .v (.agg #[.bool g, .slice p (dig B32 num).length a, .slice q (dig B32 1).length b, .int .i64 E])
 have I := Inv.start w [ownF b1 .u32 101 p a (dig B32 num), ownF b2 .u32 101 q b (dig B32 1)] ⟨hp, hq, True.intro⟩
 refine a0g [.v (.agg #[.bool g, .slice p (dig B32 num).length a, .slice q (dig B32 1).length b, .int .i64 E]), .v (.int .i64 (k : Int))] I Tryz.func14 ?_
 refine zd [] I fun Al W I => zk [0, 1, 3, 4, 7, 8] I fun I => zo 2 I fun I => zq I (fun Al W I => have hzW := I.bel.size; (HL W p a num I.fa.1.rd (by omega)).out) fun Al W I => zo 5 I fun I => zq I (fun Al W I => have hzW := I.bel.size; (HL W q b 1 I.fa.2.1.rd (by omega)).out) fun Al W I => zki 6 I .i64 (((blen num : Nat) : Int) - ((blen 1 : Nat) : Int)) (((blen num : Int) - blen 1)) (iwo) fun I => zki 9 I .i64 (((blen num : Int) - blen 1) + E) (((blen num : Int) - blen 1 + E)) (iwo) fun I => zk [10] I fun I => zi I 24 .i64 (((blen num : Int) - blen 1 + E) * 30103) ((((blen num : Int) - blen 1 + E) * 30103)) ((by exact iwo)) fun Al W I => zbin I 25 _ (fun _ _ _ _ _ => h0z .i64 ((((blen num : Int) - blen 1 + E) * 30103)) (100000) (((((blen num : Int) - blen 1 + E) * 30103).tdiv 100000)) (by omega) ((by have := hes ((blen num : Int) - blen 1 + E) (by omega); exact iwo))) fun Al W I => g0e I (fun gk fr bx gs => ∃ (U900 : Nat → Value) (pw : Int), fr = (aB :: .v (vI (k : Int)) :: .p 0 0 :: .v undef :: sw U900 4 2 (.v (vI ((blen num : Int) - blen 1 + E)) :: .v (vI pw) :: sw U900 8 81 []) : List SV) ∧ bx = [aA] ∧ gs = [ownF b1 .u32 101 p a (dig B32 num), ownF b2 .u32 101 q b (dig B32 1)] ∧ (-20000 ≤ pw ∧ pw ≤ 20000) ∧ (gk = (pw - P).natAbs)) (((((blen num : Int) - blen 1 + E) * 30103).tdiv 100000 - P).natAbs) (fun Al W U I => ⟨_, ⟨U, _, rfl, rfl, rfl, (by have := hes ((blen num : Int) - blen 1 + E) (by omega); omega), rfl⟩, I.pick [0, 1]⟩) ?_
 rintro J0 gk0 _ _ _ ⟨U900, pw, rfl, rfl, rfl, hpw, hgk⟩ hJ0 Al W I
 have hq2 := hql ((k : Int) - 1 - pw) (by omega)
 have hl2 := hlong pw
 have hs2 := hshort pw
 refine zi I 29 .i64 ((k : Int) - 1) (((k : Int) - 1)) ((by exact iwo)) fun Al W I => zi I 31 .i64 (((k : Int) - 1) - pw) (((k : Int) - 1 - pw)) ((by exact iwo)) fun Al W I => zg I (fun Al W I => have hzW := I.bel.size; (HSc ((k : Int) - 1 - pw) W I.fa.1.rd I.fa.2.1.rd (by omega)).out) fun Al V Iv _ hB _ kz => ?_
 rintro _ W ⟨p32, c32, q32, d32, r32, z32, rfl, o32, s32, v32, hb⟩
 refine ⟨_, rfl, kz _ _ hb fun I => ?_⟩
 have I := I.own o32
 have I := I.own s32
 have I := I.own v32
 refine zq I (fun Al W I => have hzW := I.bel.size; (HDe W p32 c32 (q10 N D ((k : Int) - 1 - pw)) I.fa.2.2.1.rd (by omega)).out) fun Al W I => ?_
 rcases bTF (decide ((((a0d (a0t (q10 N D ((k : Int) - 1 - pw)))).size : Nat) : Int) > (k : Int))) with f42 | f42
 · refine zb I 42 (decide ((((a0d (a0t (q10 N D ((k : Int) - 1 - pw)))).size : Nat) : Int) > (k : Int))) (true) (f42) fun Al W I => ?_
   have hlt : pw < P := hl2.1 (by have := oTr f42; rw [a0k] at this; omega)
   refine zi I 44 .i64 (pw + 1) ((pw + 1)) ((by exact iwo)) fun Al W I => a0i I J0 fun Al W U I => hJ0 ((pw + 1 - P).natAbs) _ _ _ _ _ ((by omega)) ⟨U, (pw + 1), rfl, rfl, rfl, (by omega), rfl⟩ (I.pick [3, 4])
 refine zb I 42 (decide ((((a0d (a0t (q10 N D ((k : Int) - 1 - pw)))).size : Nat) : Int) > (k : Int))) (false) (f42) fun Al W I => ?_
 rcases bTF (decide ((((a0d (a0t (q10 N D ((k : Int) - 1 - pw)))).size : Nat) : Int) < (k : Int))) with f49 | f49
 · refine zb I 49 (decide ((((a0d (a0t (q10 N D ((k : Int) - 1 - pw)))).size : Nat) : Int) < (k : Int))) (true) (f49) fun Al W I => ?_
   have hgt : P < pw := hs2.1 (by exact .inl (by have := oTr f49; rw [a0k] at this; omega))
   refine zi I 56 .i64 (pw - 1) ((pw - 1)) ((by exact iwo)) fun Al W I => a0i I J0 fun Al W U I => hJ0 ((pw - 1 - P).natAbs) _ _ _ _ _ ((by omega)) ⟨U, (pw - 1), rfl, rfl, rfl, (by omega), rfl⟩ (I.pick [3, 4])
 refine zb I 49 (decide ((((a0d (a0t (q10 N D ((k : Int) - 1 - pw)))).size : Nat) : Int) < (k : Int))) (false) (f49) fun Al W I => ?_
 rcases bTF ((((dig B32 (q10 N D ((k : Int) - 1 - pw))).length : Nat) : Int) == 0) with f53 | f53
 · refine zb I 53 ((((dig B32 (q10 N D ((k : Int) - 1 - pw))).length : Nat) : Int) == 0) (true) (f53) fun Al W I => ?_
   have hgt : P < pw := hs2.1 (by exact .inr (by have := beq_iff_eq.1 f53; have := a0f a0a (q10 N D ((k : Int) - 1 - pw)); omega))
   refine zi I 56 .i64 (pw - 1) ((pw - 1)) ((by exact iwo)) fun Al W I => a0i I J0 fun Al W U I => hJ0 ((pw - 1 - P).natAbs) _ _ _ _ _ ((by omega)) ⟨U, (pw - 1), rfl, rfl, rfl, (by omega), rfl⟩ (I.pick [3, 4])
 refine zb I 53 ((((dig B32 (q10 N D ((k : Int) - 1 - pw))).length : Nat) : Int) == 0) (false) (f53) fun Al W I => ?_
 have hpP : pw = P := by have h1 : ¬ pw < P := fun h => oFa f42 (by rw [a0k]; have := hl2.2 h; omega); have h2 : ¬ P < pw := fun h => (hs2.2 h).elim (fun h => oFa f49 (by rw [a0k]; omega)) (fun h => bnF f53 (by have := a0f a0a (q10 N D ((k : Int) - 1 - pw)); omega)); omega
 subst hpP
 refine zqo I (fun Al W I => have hzW := I.bel.size; (HSh W q32 d32 (r10 N D ((k : Int) - 1 - pw)) I.fa.2.1.rd (by have := a0j a0a (Nat.le_of_lt (hrl ((k : Int) - 1 - pw))); omega)).out) fun Al W p58 c58 I => zq I (fun Al W I => have hzW := I.bel.size; (HCm W p58 r32 c58 z32 (r10 N D ((k : Int) - 1 - pw) * 2) (d10 D ((k : Int) - 1 - pw)) I.fa.1.rd I.fa.2.1.rd (by have := a0j a0a (Nat.le_of_lt (hrl ((k : Int) - 1 - pw))); have := a0x a0a (r10 N D ((k : Int) - 1 - pw)) 2; have := (a0h a0a 2 1).2 (by decide); omega) (by omega)).out) fun Al W I => zcut I (some 3000010) (fun fr bx gs => ∃ (U1 : Nat → Value) (up : Bool), fr = (aB :: .v (vI (k : Int)) :: .p 0 0 :: vu :: sw U900 4 2 (.v (vI ((blen num : Int) - blen 1 + E)) :: .v (vI pw) :: .v (vS (dig B32 (q10 N D ((k : Int) - 1 - pw))) p32 c32) :: .v (vS (dig B32 (r10 N D ((k : Int) - 1 - pw))) q32 d32) :: .v (vS (dig B32 (d10 D ((k : Int) - 1 - pw))) r32 z32) :: .v (.string (a0d (a0t (q10 N D ((k : Int) - 1 - pw))))) :: .v (vI (cmpN (r10 N D ((k : Int) - 1 - pw) * 2) (d10 D ((k : Int) - 1 - pw)))) :: sw U1 13 25 (.v (.bool false) :: sw U1 39 6 (.v (.bool false) :: sw U1 46 27 (.v (.bool up) :: sw U1 74 7 (.v (U900 81) :: sw U1 82 7 []))))) : List SV) ∧ bx = [aA] ∧ gs = [ownF w.heap.size .u32 101 p58 c58 (dig B32 (r10 N D ((k : Int) - 1 - pw) * 2)), ownF w.heap.size .u32 101 r32 z32 (dig B32 (d10 D ((k : Int) - 1 - pw))), ownF w.heap.size .u32 101 q32 d32 (dig B32 (r10 N D ((k : Int) - 1 - pw))), ownF w.heap.size .u32 101 p32 c32 (dig B32 (q10 N D ((k : Int) - 1 - pw))), ownF b1 .u32 101 p a (dig B32 num), ownF b2 .u32 101 q b (dig B32 1)] ∧ (up = upT N D ((k : Int) - 1 - pw))) ?_ ?_
 · intro J hJ Al W I
   rcases bTF (decide ((cmpN (r10 N D ((k : Int) - 1 - pw) * 2) (d10 D ((k : Int) - 1 - pw))) > 0)) with f62 | f62
   · refine zb I 62 (decide ((cmpN (r10 N D ((k : Int) - 1 - pw) * 2) (d10 D ((k : Int) - 1 - pw))) > 0)) (true) (f62) fun Al W I => a0i I J fun Al W U I => hJ _ _ _ _ _ ⟨U, true, rfl, rfl, rfl, (by rw [hup]; symm; exact dTr (.inl (oTr f62)))⟩ (I.pick [0, 1, 2, 3, 4, 5])
   refine zb I 62 (decide ((cmpN (r10 N D ((k : Int) - 1 - pw) * 2) (d10 D ((k : Int) - 1 - pw))) > 0)) (false) (f62) fun Al W I => ?_
   rcases bTF ((cmpN (r10 N D ((k : Int) - 1 - pw) * 2) (d10 D ((k : Int) - 1 - pw))) == 0) with f65 | f65
   · refine zb I 65 ((cmpN (r10 N D ((k : Int) - 1 - pw) * 2) (d10 D ((k : Int) - 1 - pw))) == 0) (true) (f65) fun Al W I => zx I 68 (fun _ => .pointer (some (at_ p32 0))) (fun Al W I => (f0n (m := 0) (n := (dig B32 (q10 N D ((k : Int) - 1 - pw))).length) (c := c32) g1y I.fa.2.2.2.1.rd.solid (by have := a0f a0a (q10 N D ((k : Int) - 1 - pw)); omega))) fun Al W I => zx I 69 (fun _ => .int .u32 ((dg (dig B32 (q10 N D ((k : Int) - 1 - pw))) 0 : Nat) : Int)) (fun Al W I => (p0j I.fa.2.2.2.1.rd k1p (by have := a0f a0a (q10 N D ((k : Int) - 1 - pw)); omega))) fun Al W I => zbin I 70 _ (fun _ _ _ _ _ => o0v .u32 ((dg (dig B32 (q10 N D ((k : Int) - 1 - pw))) 0 : Nat) : Int) (1) (((q10 N D ((k : Int) - 1 - pw) % 2 : Nat) : Int)) ((by exact q1n _))) fun Al W I => ?_
     rcases bTF (((q10 N D ((k : Int) - 1 - pw) % 2 : Nat) : Int) == 1) with f71 | f71
     · refine zb I 71 (((q10 N D ((k : Int) - 1 - pw) % 2 : Nat) : Int) == 1) (true) (f71) fun Al W I => a0i I J fun Al W U I => hJ _ _ _ _ _ ⟨U, true, rfl, rfl, rfl, (by rw [hup]; symm; exact dTr (.inr ⟨beq_iff_eq.1 f65, by have := beq_iff_eq.1 f71; omega⟩))⟩ (I.pick [0, 1, 2, 3, 4, 5])
     refine zb I 71 (((q10 N D ((k : Int) - 1 - pw) % 2 : Nat) : Int) == 1) (false) (f71) fun Al W I => a0i I J fun Al W U I => hJ _ _ _ _ _ ⟨U, false, rfl, rfl, rfl, (by rw [hup]; symm; exact dFa (fun h => h.elim (oFa f62) (fun h => bnF f71 (by have := h.2; omega))))⟩ (I.pick [0, 1, 2, 3, 4, 5])
   refine zb I 65 ((cmpN (r10 N D ((k : Int) - 1 - pw) * 2) (d10 D ((k : Int) - 1 - pw))) == 0) (false) (f65) fun Al W I => a0i I J fun Al W U I => hJ _ _ _ _ _ ⟨U, false, rfl, rfl, rfl, (by rw [hup]; symm; exact dFa (fun h => h.elim (oFa f62) (fun h => bnF f65 h.1)))⟩ (I.pick [0, 1, 2, 3, 4, 5])
 rintro _ _ _ ⟨U1, up, rfl, rfl, rfl, hup2⟩ Al W I
 refine zcut I (some 2000073) (fun fr bx gs => ∃ (U2 : Nat → Value) (s : LN) (pf : Int), fr = (aB :: .v (vI (k : Int)) :: .p 0 0 :: vu :: sw U900 4 2 (.v (vI ((blen num : Int) - blen 1 + E)) :: .v (vI pf) :: .v (vS (dig B32 (q10 N D ((k : Int) - 1 - pw))) p32 c32) :: .v (vS (dig B32 (r10 N D ((k : Int) - 1 - pw))) q32 d32) :: .v (vS (dig B32 (d10 D ((k : Int) - 1 - pw))) r32 z32) :: .v (.string (a0d s)) :: .v (vI (cmpN (r10 N D ((k : Int) - 1 - pw) * 2) (d10 D ((k : Int) - 1 - pw)))) :: sw U2 13 25 (.v (.bool false) :: sw U2 39 6 (.v (.bool false) :: sw U2 46 27 (.v (.bool up) :: sw U2 74 15 [])))) : List SV) ∧ bx = [aA] ∧ gs = [ownF w.heap.size .u32 101 p58 c58 (dig B32 (r10 N D ((k : Int) - 1 - pw) * 2)), ownF w.heap.size .u32 101 r32 z32 (dig B32 (d10 D ((k : Int) - 1 - pw))), ownF w.heap.size .u32 101 q32 d32 (dig B32 (r10 N D ((k : Int) - 1 - pw))), ownF w.heap.size .u32 101 p32 c32 (dig B32 (q10 N D ((k : Int) - 1 - pw))), ownF b1 .u32 101 p a (dig B32 num), ownF b2 .u32 101 q b (dig B32 1)] ∧ (R = (s, pf))) ?_ ?_
 · intro J hJ Al W I
   rcases bTF up with rfl | rfl
   · refine zqo I (fun Al W I => (HO W).out) fun Al W p75 c75 I => zqo I (fun Al W I => have hzW := I.bel.size; (HAd W p32 p75 c32 c75 (q10 N D ((k : Int) - 1 - pw)) I.fa.2.2.2.2.1.rd I.fa.1.rd (by omega)).out) fun Al W p76 c76 I => zq I (fun Al W I => have hzW := I.bel.size; (HDe W p76 c76 (q10 N D ((k : Int) - 1 - pw) + 1) I.fa.1.rd (by have := d0w a0a (q10 N D ((k : Int) - 1 - pw)) 1; omega)).out) fun Al W I => ?_
     rcases bTF (decide ((((a0d (a0t (q10 N D ((k : Int) - 1 - pw) + 1))).size : Nat) : Int) > (k : Int))) with f81 | f81
     · refine zb I 81 (decide ((((a0d (a0t (q10 N D ((k : Int) - 1 - pw) + 1))).size : Nat) : Int) > (k : Int))) (true) (f81) fun Al W I => zx I 84 (fun _ => .string (a0d ((a0t (q10 N D ((k : Int) - 1 - pw) + 1)).take k))) (fun Al W I => (by rw [show (a0t (q10 N D ((k : Int) - 1 - pw) + 1)).take k = ((a0t (q10 N D ((k : Int) - 1 - pw) + 1)).take k).drop 0 from rfl, ← h0b (o0b _)]; exact g0q uSt (.inl ⟨rfl, rfl⟩) (.inr rfl) (Nat.zero_le _) (by have := oTr f81; omega))) fun Al W I => zi I 86 .i64 (pw + 1) ((pw + 1)) ((by exact iwo)) fun Al W I => a0i I J fun Al W U I => hJ _ _ _ _ _ ⟨U, ((a0t (q10 N D ((k : Int) - 1 - pw) + 1)).take k), (pw + 1), rfl, rfl, rfl, (by rw [hdec, hdT, ← hup2, if_pos rfl, if_pos (by have := oTr f81; rw [a0k] at this; omega)])⟩ (I.pick [2, 3, 4, 5, 6, 7])
     refine zb I 81 (decide ((((a0d (a0t (q10 N D ((k : Int) - 1 - pw) + 1))).size : Nat) : Int) > (k : Int))) (false) (f81) fun Al W I => a0i I J fun Al W U I => hJ _ _ _ _ _ ⟨U, (a0t (q10 N D ((k : Int) - 1 - pw) + 1)), pw, rfl, rfl, rfl, (by rw [hdec, hdT, ← hup2, if_pos rfl, if_neg (by have := oFa f81; rw [a0k] at this; omega)])⟩ (I.pick [2, 3, 4, 5, 6, 7])
   exact a0i I J fun Al W U I => hJ _ _ _ _ _ ⟨U, (a0t (q10 N D ((k : Int) - 1 - pw))), pw, rfl, rfl, rfl, (by rw [hdec, hdT, ← hup2, if_neg Bool.false_ne_true, Nat.add_zero, if_neg (by have h := fun h => Int.lt_irrefl _ (hl2.1 h); omega)])⟩ (I.pick [0, 1, 2, 3, 4, 5])
 rintro _ _ _ ⟨U2, s, pf, rfl, rfl, rfl, hs⟩ Al W I
 exact zret I (v := fun Al => .tuple #[.string (a0d s), vI pf]) fun Al W I => ⟨by rw [hs], I.below⟩
end Go.Proofs.YtpgomglbaacmdaaGreatDoor
namespace Go.Slip
theorem u0l (c : Nat) {j : Nat} (h : j < 8) : (e0u c).take (j + 1) = (e0u c).take j ++ [c / (128 / 2 ^ j) % 2 == 1] := by
 match j, h with
 | 0, _ => rfl
 | 1, _ => rfl
 | 2, _ => rfl
 | 3, _ => rfl
 | 4, _ => rfl
 | 5, _ => rfl
 | 6, _ => rfl
 | 7, _ => rfl
theorem t1l {k j : Nat} (h : k = 128 / 2 ^ j) (hj : j ≤ 8) : k = 0 ↔ j = 8 := by
 subst h
 match j, hj with
 | 0, _ => decide
 | 1, _ => decide
 | 2, _ => decide
 | 3, _ => decide
 | 4, _ => decide
 | 5, _ => decide
 | 6, _ => decide
 | 7, _ => decide
 | 8, _ => decide
theorem u1p {k j : Nat} (h : k = 128 / 2 ^ j) : k ≤ 128 := by rw [h]; exact Nat.div_le_self _ _
theorem n0q : ∀ (x y : List Nat), g0x (x ++ y) = g0x x ++ g0x y
 | [], _ => rfl
 | c :: r, y => by show e0u c ++ g0x (r ++ y) = _; rw [n0q r y]; simp [g0x]
theorem d1i (L : List Nat) {i : Nat} (h : i < L.length) : g0x (L.take (i + 1)) = g0x (L.take i) ++ (e0u (dg L i)).take 8 := by
 rw [← List.take_append_getElem h, n0q, a0s h]
 congr 1
end Go.Slip
namespace Go.Proofs.YtpgomglbaacmdaaGreatDoor
open Go.RowKit Go.Slip
def GBs (w : World) (bs : List Bool) (en : Ending) (w' : World) : Prop :=
 ∃ p c, en = .returned (.slice p bs.length c) ∧ OwnV w' w.heap.size 4 p c (bs.map Value.bool) ∧ Below w.heap.size w w'
theorem u0m (n : Int) (s : ByteArray) (w : World) (hn : IsFm n) (hs : s.size = (fmt n).size) :
 Calls Tryz.prog 20 #[.int .i64 n, .string s] w (GBs w (g0x (ordL (fmt n).ord (a0b s)))) := by
 have G := b0j hn
 have z1 := G.sz
 have HP := fun i W h => hi0 (w0q n i W hn h)
 generalize fmt n = f at *
 have hl0 : (a0b s).length = f.size := by rw [a0q, hs]
 have hlL : (ordL f.ord (a0b s)).length = f.size := by rw [c0b, hl0]
 have hbL := j0q (o := f.ord) (xs := a0b s) (fun _ => by omega) (j0n s)
 have hdg : ∀ i, i < f.size → dg (a0b s) (plc f.ord f.size i) = dg (ordL f.ord (a0b s)) i := fun i hi => by rw [n0a (by omega), hl0]
 have hpl : ∀ i, i < f.size → plc f.ord f.size i < s.size := fun i hi => by rw [hs]; exact f1t (fun _ => by omega) hi
 generalize ordL f.ord (a0b s) = L at *
 have hsucc := fun i (h : i < f.size) => d1i L (i := i) (by omega)
 have hdb := s1w hbL
 have hlen : ∀ i, i ≤ f.size → (g0x (L.take i)).length = 8 * i := fun i hi => by rw [i0x, List.length_take]; omega
 have hall : L.take f.size = L := List.take_of_length_le (by omega)
 clear hbL hl0
 have I := Inv.start w [] True.intro
 refine a0g [.v (.int .i64 n), .v (.string s)] I Tryz.func20 ?_
 have I := I.ownv (OwnV.nil _ w.heap.size 4) (Nat.le_refl _)
 refine g0e I (fun gk fr bx gs => ∃ (U900 : Nat → Value) (i : Nat) (p5 : OA) (c5 : Nat) (n5 : Nat) (xs : List Value), fr = (.v (.int .i64 n) :: .v (.string s) :: su 2 (.v (.slice none 0 0) :: .v (.slice p5 n5 c5) :: .v (.int .i64 (i : Int)) :: sw U900 7 27 []) : List SV) ∧ bx = [] ∧ gs = [i0j w.heap.size 4 p5 c5 xs] ∧ (xs = (g0x (L.take i)).map Value.bool) ∧ (n5 = 8 * i) ∧ (gk + i = f.size)) f.size (fun Al W U I => ⟨_, ⟨U, 0, none, 0, 0, [], rfl, rfl, rfl, (by rw [List.take_zero]; rfl), (by omega), (by omega)⟩, I.pick [0]⟩) ?_
 rintro J0 gk0 _ _ _ ⟨U900, i, p5, c5, n5, xs, rfl, rfl, rfl, hx, hn5, hgk⟩ hJ0 Al W I
 rcases bTF (decide ((i : Int) < (s.size : Int))) with f12 | f12
 · refine zb I 12 (decide ((i : Int) < (s.size : Int))) (true) (f12) fun Al W I => zq I (fun Al W I => have hzW := I.bel.size; (HP i W (by have := oTr f12; omega)).out) fun Al W I => zx I 19 (fun _ => .int .u8 ((dg L i : Nat) : Int)) (fun Al W I => (by rw [← hdg i (by have := oTr f12; omega)]; exact m0h uStr rfl (hpl i (by have := oTr f12; omega)))) fun Al W I => zi I 20 .i64 ((dg L i : Nat) : Int) (((dg L i : Nat) : Int)) ((IntWalk.i64_in _ (by have := hdb i; omega))) fun Al W I => g0e I (fun gk fr bx gs => ∃ (U901 : Nat → Value) (j : Nat) (k : Nat) (p7 : OA) (c7 : Nat) (n7 : Nat) (ys : List Value), fr = (.v (vI n) :: .v (.string s) :: su 2 (.v (.slice none 0 0) :: .v (.slice p7 n7 c7) :: .v (vI (i : Int)) :: .v (vI ((dg L i : Nat) : Int)) :: .v (vI (k : Int)) :: sw U901 9 3 (.v (.bool true) :: sw U901 13 21 [])) : List SV) ∧ bx = [] ∧ gs = [i0j w.heap.size 4 p7 c7 ys] ∧ (ys = (g0x (L.take i) ++ (e0u (dg L i)).take j).map Value.bool) ∧ (n7 = 8 * i + j) ∧ (k = 128 / 2 ^ j) ∧ (gk + j = 8)) 8 (fun Al W U I => ⟨_, ⟨U, 0, 128, p5, c5, n5, xs, rfl, rfl, rfl, (by rw [List.take_zero, List.append_nil]; exact hx), hn5, (by decide), (by omega)⟩, I.pick [0]⟩) ?_
   rintro J1 gk1 _ _ _ ⟨U901, j, k, p7, c7, n7, ys, rfl, rfl, rfl, hy, hn7, hk, hgk1⟩ hJ1 Al W I
   have hi8 : (g0x (L.take i)).length = 8 * i := hlen i (by have := oTr f12; omega)
   have hyl : n7 = ys.length := by rw [hn7, hy, List.length_map, List.length_append, hi8, List.length_take, n0l]; omega
   have hk0 : k = 0 ↔ j = 8 := t1l hk (by omega)
   rcases bTF (decide ((k : Int) > 0)) with f22 | f22
   · refine zb I 22 (decide ((k : Int) > 0)) (true) (f22) fun Al W I => zbin I 28 _ (fun _ _ _ _ _ => h0z .i64 (((dg L i : Nat) : Int)) (k : Int) (((dg L i / k : Nat) : Int)) ((by have := oTr f22; omega)) ((by rw [show ((dg L i : Nat) : Int).tdiv (k : Int) = ((dg L i / k : Nat) : Int) from (Int.ofNat_tdiv _ _).symm]; have h1 := hdb i; have h2 := Nat.div_le_self (dg L i) k; generalize dg L i / k = qq at *; exact iwo))) fun Al W I => zbin I 29 _ (fun _ _ _ _ _ => o0u .i64 (((dg L i / k : Nat) : Int)) (2) (((dg L i / k % 2 : Nat) : Int)) ((show (2 : Int) ≠ 0 by omega)) ((by exact (Int.ofNat_tmod _ 2).symm))) fun Al W I => zb I 30 (((dg L i / k % 2 : Nat) : Int) == 1) ((dg L i / k % 2 == 1)) ((by exact k0v _)) fun Al W I => zapv I [] k0u 65 n7 1 (8 * i + (j + 1)) (fun Al => some ⟨(lk 0 Al 0), 0, none⟩) 1 ([Value.bool (dg L i / k % 2 == 1)]) hyl rfl (by omega) (by have := oTr f12; omega) rfl (us := ys ++ ([Value.bool (dg L i / k % 2 == 1)])) (fun Al W I => o1p (I.box 0 4 _)) (fun Al W I h9 => True.intro) (fun Al W p32 c32 I => ?_)
     refine zbin I 24 _ (fun _ _ _ _ _ => h0z .i64 (k : Int) (2) (((k / 2 : Nat) : Int)) ((show (2 : Int) ≠ 0 by omega)) ((by rw [show (k : Int).tdiv 2 = ((k / 2 : Nat) : Int) from (Int.ofNat_tdiv k 2).symm]; exact IntWalk.i64_in _ (by have := u1p hk; omega)))) fun Al W I => g1c 0 I J1 fun Al W U I => hJ1 (gk1 - 1) _ _ _ _ _ ((by have := oTr f22; omega)) ⟨U, j + 1, k / 2, p32, c32, 8 * i + (j + 1), ys ++ [Value.bool (dg L i / k % 2 == 1)], rfl, rfl, rfl, (by rw [u0l _ (show j < 8 by have := oTr f22; omega), ← hk, ← List.append_assoc, List.map_append (l₁ := _ ++ _), hy]; rfl), rfl, (by rw [hk, Nat.div_div_eq_div_mul, Nat.pow_succ]), (by have := oTr f22; omega)⟩ (I.pick [0])
   refine zb I 22 (decide ((k : Int) > 0)) (false) (f22) fun Al W I => zi I 14 .i64 ((i : Int) + 1) (((i + 1 : Nat) : Int)) ((by rw [show ((i : Int) + 1) = ((i + 1 : Nat) : Int) by omega]; exact IntWalk.i64_in _ (by have := oTr f12; omega))) fun Al W I => ?_
   have I := I.ownv (OwnV.nil _ w.heap.size 4) (Nat.le_refl _)
   exact a0i I J0 fun Al W U I => hJ0 (gk0 - 1) _ _ _ _ _ ((by have := oTr f12; omega)) ⟨U, i + 1, p7, c7, n7, ys, rfl, rfl, rfl, (by rw [hsucc i (by have := oTr f12; omega), hy, hk0.1 (by have := oFa f22; omega)]), (by have := hk0.1 (by have := oFa f22; omega); omega), (by have := oTr f12; omega)⟩ (I.pick [1])
 refine zb I 12 (decide ((i : Int) < (s.size : Int))) (false) (f12) fun Al W I => ?_
 have hi : i = f.size := by have := oFa f12; omega
 have hL8 : (g0x L).length = n5 := by rw [← hall, hlen _ (Nat.le_refl _)]; omega
 rw [hi, hall] at hx
 exact zret I (v := fun Al => .slice p5 n5 c5) fun Al W I => ⟨p5, c5, by rw [hL8], by rw [← hx]; exact I.fa.1, I.below⟩
end Go.Proofs.YtpgomglbaacmdaaGreatDoor
