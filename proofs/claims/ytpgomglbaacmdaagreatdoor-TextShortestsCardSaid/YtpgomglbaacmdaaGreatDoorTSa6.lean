/- codec: split: the parts of a pattern. -/
import Derived.Deep.LoopGhost
import Derived.Lib.Strings
import Derived.Lib.Slices
import Derived.Lib.Small
import Derived.Lib.Walk
import Derived.Lib.BitFns
import Derived.Carry
import Derived.Outline
import Derived.Test.YtpgomglbaacmdaaGreatDoorTSa1
import Derived.Test.YtpgomglbaacmdaaGreatDoorTSa2
import Derived.Test.YtpgomglbaacmdaaGreatDoorTSa3
import Derived.Test.YtpgomglbaacmdaaGreatDoorTSa4
import Derived.Test.YtpgomglbaacmdaaGreatDoorTSa5
set_option maxHeartbeats 8000000
set_option maxRecDepth 100000
namespace Go.Slip
theorem w0g (L : List Nat) (i : Nat) (h : i < L.length) : be (L.take i) * 2 ^ 8 + dg L i = be (L.take (i + 1)) := by
 rw [← List.take_append_getElem h, f1r, a0s h]
theorem k0v (n : Nat) : ((n : Int) == 1) = (n == 1) := by
 rw [Bool.eq_iff_iff, beq_iff_eq, beq_iff_eq]; omega
theorem c1u (L : List Nat) (i : Nat) (h : ∀ c ∈ L, c < 256) (hl : L.length ≤ 10) : be (L.take i) < 2 ^ 80 := by
 have h1 := s1d (L.take i) (fun c hc => h c (List.mem_of_mem_take hc))
 refine Nat.lt_of_lt_of_le h1 (Nat.pow_le_pow_right (by omega) ?_)
 have : (L.take i).length ≤ L.length := by rw [List.length_take]; omega
 omega
theorem s1w {L : List Nat} (h : ∀ c ∈ L, c < 256) (i : Nat) : dg L i < 256 := by
 unfold dg
 cases e : L[i]? with
 | none => simp
 | some x => exact h x (List.mem_of_getElem? e)
theorem be0 (L : List Nat) : be (L.take 0) = 0 := by rw [List.take_zero]; rfl
end Go.Slip
namespace Go.Proofs.YtpgomglbaacmdaaGreatDoor
open Go.RowKit Go.Slip
def a0w (f : Fm) (s : ByteArray) : Nat := be (ordL f.ord (a0b s))
def s1x (w : World) (g : Bool) (e x : Nat) (en : Ending) (w' : World) : Prop :=
 ∃ p c, en = .returned (.agg #[.bool g, .int .i64 (e : Int), .slice p (dig B32 x).length c]) ∧ Own w' w.heap.size .u32 101 p c (dig B32 x) ∧ Below w.heap.size w w'
theorem p1p (L : List Nat) (w : World) (b : Nat) : Own w b .u32 101 none 0 (dig B32 (be (L.take 0))) := by rw [be0, a0c]; exact Own.nil _ _ _ _
theorem g1z (f : Fm) (s : ByteArray) (w : World) (G : d0h f) (hs : s.size = f.size) :
 Calls Tryz.prog 77 #[(fV f), .string s] w (s1x w (f.neg (a0w f s)) (f.exp (a0w f s)) (f.frac (a0w f s))) := by
 have z1 := G.sz
 have z2 := G.e2
 have z3 := G.f2
 have z4 := G.bits
 have hl0 : (a0b s).length = f.size := by rw [a0q, hs]
 have hlL : (ordL f.ord (a0b s)).length = f.size := by rw [c0b, hl0]
 have hbL := j0q (o := f.ord) (xs := a0b s) (fun _ => by omega) (j0n s)
 have hord := fun (W : World) (base : Nat) (p : OA) (c : Nat) h1 => g1g f base p s.size c (a0b s) W G h1 (a0q s).symm hl0
 unfold a0w
 generalize ordL f.ord (a0b s) = L at *
 have hNlt : be L < 2 ^ (8 * f.size) := by rw [← hlL]; exact s1d L hbL
 have hst := fun i h => w0g L i h
 have hlt := fun i => c1u L i hbL (by omega)
 have hdg := s1w hbL
 have hfin : be (L.take f.size) = be L := by rw [List.take_of_length_le (by omega)]
 have hTlt : be L / 2 ^ f.F < 2 ^ (f.E + 1) := by
  rw [Nat.div_lt_iff_lt_mul (Nat.pow_pos (by omega)), ← Nat.pow_add, show f.E + 1 + f.F = 8 * f.size by omega]
  exact hNlt
 have hT16 : be L / 2 ^ f.F < 65536 := Nat.lt_of_lt_of_le hTlt (by rw [show (65536 : Nat) = 2 ^ 16 from rfl]; exact Nat.pow_le_pow_right (by omega) (by omega))
 have hN80 : be L < 2 ^ 80 := Nat.lt_of_lt_of_le hNlt (Nat.pow_le_pow_right (by omega) (by omega))
 have ef : f.frac (be L) = be L - be L / 2 ^ f.F * 2 ^ f.F := by
  unfold Fm.frac
  have := Nat.div_add_mod (be L) (2 ^ f.F)
  rw [Nat.mul_comm] at this
  omega
 have hle : be L / 2 ^ f.F * 2 ^ f.F ≤ be L := Nat.div_mul_le_self _ _
 have hlfr : (dig B32 (be L / 2 ^ f.F * 2 ^ f.F)).length ≤ 3 := b0b (Nat.lt_of_le_of_lt hle hN80) (by omega)
 rw [ef]
 unfold Fm.neg Fm.exp
 obtain ⟨T, hT⟩ : ∃ T, be L / 2 ^ f.F = T := ⟨_, rfl⟩
 rw [hT] at hTlt hT16 hle hlfr ⊢
 have hTl : (dig B32 T).length ≤ 1 := b0b (n := 32) (by omega) (by omega)
 have hT0 : (dig B32 T).length = 0 ↔ T = 0 := a0f a0a T
 have hTd : 0 < (dig B32 T).length → dg (dig B32 T) 0 = T := fun h => by
  have h0 : 0 < T := by omega
  rw [h0l a0a h0 (by unfold B32; omega)]
  rfl
 have hla := fun i => b0b (hlt i) (k := 3) (by omega)
 have hlN := b0b hN80 (k := 3) (by omega)
 clear hNlt hlt hN80 ef hbL hl0
 have hsh := s0z (E := f.E) (by omega)
 have h0T : 0 < 2 ^ f.E := Nat.pow_pos (by omega)
 have h0T2 : 2 ^ f.E ≤ 2 ^ 15 := Nat.pow_le_pow_right (by omega) (by omega)
 have hand := fun h => o0r (x := T) (E := f.E) h (by omega)
 have hshr := e1y (x := T) (E := f.E) (by omega)
 have hand0 := fun h => o0r (x := 0) (E := f.E) h (by omega)
 have hshr0 := e1y (x := 0) (E := f.E) (by omega)
 generalize hP : 2 ^ f.E = P at *
 have HAND := hi0 hand
 have HSHR := hi0 hshr
 have HAND0 := hi0 hand0
 have HSHR0 := hi0 hshr0
 have HSH := hi0 hsh
 have HFIN := hi0 hfin
 have HTT := hi0 hT
 clear hand hshr hand0 hshr0 hsh hfin hT
 have hs0 : 0 < (a0b s).length := by rw [a0q]; omega
 have I := Inv.start w [] True.intro
 refine a0g [.v ((fV f)), .v (.string s)] I Tryz.func77 ?_
 refine zby I 12 uStr g1p p1m s fun Al W p12 c12 I => zsp (g := wrF w.heap.size .u8 p12 L) I [] (blk p12) (g1f f) (fun Al W I => hord W w.heap.size p12 c12 I.fa.1) (fun Al W I => ⟨⟨hs0, rfl⟩, I.fa.1.from_ hs0, True.intro⟩) (fun _ h => ⟨hs0, h.2⟩) fun Al W I => ?_
 have I := I.own (p1p L _ w.heap.size) (Nat.le_refl _)
 refine g0e I (fun gk fr bx gs => ∃ (U900 : Nat → Value) (i : Nat) (p6 : OA) (c6 : Nat) (n6 : Nat), fr = (.v ((fV f)) :: .v (.string s) :: .p 0 0 :: .v undef :: .p 1 0 :: .v (.slice p12 s.size c12) :: .v (.slice p6 n6 c6) :: .v undef :: .v (U900 8) :: su 2 (sw U900 11 6 (.v (.slice p12 s.size c12) :: .v (.int .i64 (s.size : Int)) :: .v (.int .i64 (i : Int)) :: sw U900 20 16 (.v undef :: sw U900 37 22 []))) : List SV) ∧ bx = [⟨87, [.v (.int .i64 (f.size : Int)), .v (.int .i64 (f.E : Int)), .v (.int .i64 (f.F : Int)), .v (.int .i64 f.g.rad), .v (.int .i64 f.g.digs), .v (.int .i64 f.g.lo), .v (.int .i64 f.g.hi), .v (.bool f.g.grad), .v (.bool f.hid), .v (.bool f.inf), .v (.bool f.res), .v (.func (.func (ordF f)) #[] #[])], false⟩, ⟨140, [.v (.bool false), .v (.int .i64 0), .v (.slice none 0 0)], false⟩] ∧ gs = [ownF w.heap.size .u32 101 p6 c6 (dig B32 (be (L.take i))), wrF w.heap.size .u8 p12 L] ∧ (n6 = (dig B32 (be (L.take i))).length) ∧ (gk + i = f.size)) f.size (fun Al W U I => ⟨_, ⟨U, 0, none, 0, 0, rfl, rfl, rfl, by rw [be0, a0c]; rfl, (by omega)⟩, I.pick [0, 1]⟩) ?_
 rintro J0 gk0 _ _ _ ⟨U900, i, p6, c6, n6, rfl, rfl, rfl, hn6, hgk⟩ hJ0 Al W I
 rcases bTF (decide ((i : Int) < (s.size : Int))) with f20 | f20
 · refine zb I 20 (decide ((i : Int) < (s.size : Int))) (true) (f20) fun Al W I => zx I 21 (fun _ => .pointer (some (at_ p12 i))) (fun Al W I => f0n (c := c12) k0t (by have h := I.fa.2.1.rd.solid; rw [hlL, ← hs] at h; exact h) (by have := oTr f20; omega)) fun Al W I => zx I 22 (fun _ => .int .u8 ((dg L i : Nat) : Int)) (fun Al W I => p0j I.fa.2.1.rd s1p (by have := oTr f20; omega)) fun Al W I => zqo I (fun Al W I => have hzW := I.bel.size; sshl p6 _ c6 (be (L.take i)) 8 _ 8 W I.fa.1.rd hn6 (by have := hla i; omega) (by omega) rfl rfl) fun Al W p24 c24 I => zi I 26 .i64 ((dg L i : Nat) : Int) (((dg L i : Nat) : Int)) ((IntWalk.i64_in _ (by have := hdg i; omega))) fun Al W I => zqo I (fun Al W I => have hzW := I.bel.size; sof _ (dg L i) rfl (by have := hdg i; omega) W) fun Al W p27 c27 I => zqo I (fun Al W I => have hzW := I.bel.size; sadd p24 p27 _ _ c24 c27 (be (L.take i) * 2 ^ 8) (dg L i) (be (L.take (i + 1))) W I.fa.2.1.rd I.fa.1.rd rfl rfl (by have := a0j a0a (show be (L.take i) * 2 ^ 8 ≤ be (L.take (i + 1)) by have := hst i (by have := oTr f20; omega); omega); have := hla (i + 1); omega) (by have := a0j a0a (show dg L i ≤ be (L.take (i + 1)) by have := hst i (by have := oTr f20; omega); omega); have := hla (i + 1); omega) (hst i (by have := oTr f20; omega))) fun Al W p28 c28 I => zi I 29 .i64 ((i : Int) + 1) (((i + 1 : Nat) : Int)) ((by rw [show ((i : Int) + 1) = ((i + 1 : Nat) : Int) by omega]; exact IntWalk.i64_in _ (by have := oTr f20; omega))) fun Al W I => a0i I J0 fun Al W U I => hJ0 (gk0 - 1) _ _ _ _ _ ((by have := oTr f20; omega)) ⟨U, i + 1, p28, c28, (dig B32 (be (L.take (i + 1)))).length, rfl, rfl, rfl, rfl, (by have := oTr f20; omega)⟩ (I.pick [0, 4])
 refine zb I 20 (decide ((i : Int) < (s.size : Int))) (false) (f20) fun Al W I => ?_
 have hi : i = f.size := by have := oFa f20; omega
 have hbe : be (L.take i) = be L := by rw [hi, HFIN.out]
 rw [hbe] at hn6
 refine zqo I (fun Al W I => have hzW := I.bel.size; sshr p6 _ c6 (be L) f.F T _ W (by rw [← hbe]; exact I.fa.1.rd) hn6 (by have h := I.fa.1.le_cap; rw [hbe] at h; exact h) (by omega) (by omega) rfl HTT.out) fun Al W p33 c33 I => ?_
 rcases bTF (decide ((((dig B32 T).length : Nat) : Int) > 0)) with f36 | f36
 · refine zb I 36 (decide ((((dig B32 T).length : Nat) : Int) > 0)) (true) (f36) fun Al W I => zx I 38 (fun _ => .pointer (some (at_ p33 0))) (fun Al W I => f0n (c := c33) (m := 0) g1y I.fa.1.rd.solid (by have := oTr f36; omega)) fun Al W I => zx I 39 (fun _ => .int .u32 (T : Int)) (fun Al W I => n1j I.fa.1.rd k1p (by have := oTr f36; omega) (hTd (by have := oTr f36; omega))) fun Al W I => zi I 40 .i64 (T : Int) (T : Int) (iwo) fun Al W I => zd [1] I fun Al W I => zk [0, 1, 2] I fun I => s0w 3 I _ (fun _ _ _ _ => m0v .i64 (T : Int) .i64 (f.E : Int) (((T / P : Nat) : Int)) (Int.natCast_nonneg f.E) ((by exact HSHR.out))) fun I => zkb 4 I (((T / P : Nat) : Int) == 1) ((T / P == 1)) ((by exact k0v _)) fun I => zk [5, 6, 7] I fun I => s0w 8 I _ (fun _ _ _ _ => o0t .i64 (1) .i64 (f.E : Int) ((P : Int)) (Int.natCast_nonneg f.E) ((HSH.out))) fun I => zki 9 I .i64 ((P : Int) - 1) (((P - 1 : Nat) : Int)) ((by rw [show ((P : Int) - 1) = ((P - 1 : Nat) : Int) by omega]; exact iwo)) fun I => s0w 10 I _ (fun _ _ _ _ => o0v .i64 (T : Int) (((P - 1 : Nat) : Int)) (((T % P : Nat) : Int)) ((by exact HAND.out (by omega)))) fun I => zk [11, 12, 13, 14] I fun I => zo 15 I fun I => zqo I (fun Al W I => have hzW := I.bel.size; sshl p33 _ c33 T f.F (T * 2 ^ f.F) _ W I.fa.1.rd rfl (by omega) (by omega) rfl rfl) fun Al W p56 c56 I => zo 16 I fun I => zqo I (fun Al W I => have hzW := I.bel.size; ssub p6 p56 _ _ c6 c56 (be L) (T * 2 ^ f.F) (be L - T * 2 ^ f.F) W (by rw [← hbe]; exact I.fa.2.2.1.rd) I.fa.1.rd hn6 rfl (by omega) hle rfl) fun Al W p57 c57 I => zk [17] I fun I => zo 18 I fun I => zn I fun Al W I => zret I fun Al W I => ⟨p57, c57, rfl, I.fa.1.mono (by omega), I.below⟩
 refine zb I 36 (decide ((((dig B32 T).length : Nat) : Int) > 0)) (false) (f36) fun Al W I => zd [1] I fun Al W I => zk [0, 1, 2] I fun I => s0w 3 I _ (fun _ _ _ _ => m0v .i64 (0) .i64 (f.E : Int) (((T / P : Nat) : Int)) (Int.natCast_nonneg f.E) ((by first | exact HSHR.out | (rw [hT0.1 (by have := oFa f36; omega)]; exact HSHR0.out)))) fun I => zkb 4 I (((T / P : Nat) : Int) == 1) ((T / P == 1)) ((by exact k0v _)) fun I => zk [5, 6, 7] I fun I => s0w 8 I _ (fun _ _ _ _ => o0t .i64 (1) .i64 (f.E : Int) ((P : Int)) (Int.natCast_nonneg f.E) ((HSH.out))) fun I => zki 9 I .i64 ((P : Int) - 1) (((P - 1 : Nat) : Int)) ((by rw [show ((P : Int) - 1) = ((P - 1 : Nat) : Int) by omega]; exact iwo)) fun I => s0w 10 I _ (fun _ _ _ _ => o0v .i64 (0) (((P - 1 : Nat) : Int)) (((T % P : Nat) : Int)) ((by first | exact HAND.out (by omega) | (rw [hT0.1 (by have := oFa f36; omega)]; exact HAND0.out (by omega))))) fun I => zk [11, 12, 13, 14] I fun I => zo 15 I fun I => zqo I (fun Al W I => have hzW := I.bel.size; sshl p33 _ c33 T f.F (T * 2 ^ f.F) _ W I.fa.1.rd rfl (by omega) (by omega) rfl rfl) fun Al W p56 c56 I => zo 16 I fun I => zqo I (fun Al W I => have hzW := I.bel.size; ssub p6 p56 _ _ c6 c56 (be L) (T * 2 ^ f.F) (be L - T * 2 ^ f.F) W (by rw [← hbe]; exact I.fa.2.2.1.rd) I.fa.1.rd hn6 rfl (by omega) hle rfl) fun Al W p57 c57 I => zk [17] I fun I => zo 18 I fun I => zn I fun Al W I => zret I fun Al W I => ⟨p57, c57, rfl, I.fa.1.mono (by omega), I.below⟩
structure Rin where
 g : Bool
 p : OA
 c : Nat
 xs : List Nat
 q : OA
 d : Nat
 ys : List Nat
 e : Int
structure InR (w : World) (a : Rin) : Prop where
 r1 : Rd w .u32 a.p a.xs
 l1 : a.xs.length ≤ 9223372036854775807
 b1 : ∀ x ∈ a.xs, x < B32
 r2 : Rd w .u32 a.q a.ys
 l2 : a.ys.length ≤ 9223372036854775807
 b2 : ∀ x ∈ a.ys, x < B32
theorem InR.past {w w' : World} {a : Rin} (h : InR w a) (hb : Below w.heap.size w w') : InR w' a := ⟨h.r1.past hb, h.l1, h.b1, h.r2.past hb, h.l2, h.b2⟩
def f0d (a : Rin) : Int := if b0g a.xs ≠ 0 then b0g a.xs else if b0g a.ys ≠ 0 then b0g a.ys else if a.ys.length = 0 ∨ a.e < -20000 ∨ 20000 < a.e then 3 else 0
def c0g (a : Rin) (g : Gd) (way : Int) : Int := if f0d a ≠ 0 then f0d a else if errG g ≠ 0 then errG g else if way < 1 ∨ 5 < way then 6 else 0
def s1y : Pl := ⟨false, 0, 0, false, false, false⟩
def k0w (a : Rin) (g : Gd) (way : Int) : Pl := if c0g a g way = 0 then a0m a.g (val B32 a.xs) (val B32 a.ys) a.e g way else s1y
def y0u (w : World) (d : Pl) (er : Int) (en : Ending) (w' : World) : Prop :=
 ∃ p c, en = .returned (.tuple #[.agg #[.bool d.neg, .slice p (dig B32 d.d).length c, .int .i64 d.pow, .bool d.exact, .bool d.over, .bool d.under], .int .i64 er]) ∧ Own w' w.heap.size .u32 101 p c (dig B32 d.d) ∧ Below w.heap.size w w'
theorem d0i {w wk : World} {b : Nat} {er : Int} {v3 : Bool} {d : Pl} (hd : d = ⟨false, 0, 0, v3, false, false⟩) (hs : Below w.heap.size w wk) (hB : w.heap.size ≤ b) :
 y0u w d er (.returned (.tuple #[.agg #[.bool false, .slice none 0 0, .int .i64 0, .bool v3, .bool false, .bool false], .int .i64 er]))
  ((((((wk.setCell ⟨b, 0, none⟩ (.bool false)).setCell ⟨b, 1, none⟩ (.slice none 0 0)).setCell ⟨b, 2, none⟩ (.int .i64 0)).setCell ⟨b, 3, none⟩ (.bool v3)).setCell ⟨b, 4, none⟩ (.bool false)).setCell ⟨b, 5, none⟩ (.bool false)) := by
 subst hd
 exact ⟨none, 0, by rw [a0c]; rfl, by simp only [a0c]; exact Own.nil _ _ _ _, hs.trans ((s0o wk b _ _ _ _ _ _).below hB)⟩
theorem t0z {w wk : World} {b base : Nat} {er : Int} {d : Pl} {p : OA} {c : Nat} (hs : Below w.heap.size w wk) (ho : Own wk base .u32 101 p c (dig B32 d.d)) (hb : w.heap.size ≤ base) (hB : w.heap.size ≤ b) (hne : p.isSome = true → blk p ≠ b) :
 y0u w d er (.returned (.tuple #[.agg #[.bool d.neg, .slice p (dig B32 d.d).length c, .int .i64 d.pow, .bool d.exact, .bool d.over, .bool d.under], .int .i64 er]))
  ((((((wk.setCell ⟨b, 0, none⟩ (.bool d.neg)).setCell ⟨b, 1, none⟩ (.slice p (dig B32 d.d).length c)).setCell ⟨b, 2, none⟩ (.int .i64 d.pow)).setCell ⟨b, 3, none⟩ (.bool d.exact)).setCell ⟨b, 4, none⟩ (.bool d.over)).setCell ⟨b, 5, none⟩ (.bool d.under)) :=
 ⟨p, c, rfl, (ho.only (s0o wk b _ _ _ _ _ _) hne).mono hb, hs.trans ((s0o wk b _ _ _ _ _ _).below hB)⟩
theorem w0h (a : Rin) (g : Gd) (way : Int) (w : World) (ha : InR w a) :
 Calls Tryz.prog 57 #[.agg #[.bool a.g, .slice a.p a.xs.length a.c, .slice a.q a.ys.length a.d, .int .i64 a.e], .agg #[.int .i64 g.rad, .int .i64 g.digs, .int .i64 g.lo, .int .i64 g.hi, .bool g.grad], .int .i64 way] w (y0u w (k0w a g way) (c0g a g way)) := by
 obtain ⟨er, her⟩ : ∃ er, c0g a g way = er := ⟨_, rfl⟩
 obtain ⟨rv, hrv⟩ : ∃ rv, k0w a g way = rv := ⟨_, rfl⟩
 rw [her, hrv]
 have HER := hi0 her
 have HRV := hi0 hrv
 clear her hrv
 have hz0 : er ≠ 0 → rv = s1y := fun h => by rw [← HRV.out]; unfold k0w; rw [HER.out, if_neg h]
 have HZ0 := hi0 hz0
 clear hz0
 have HCG := fun W => hi0 (t0v g W)
 have HCX := fun W (h : Rd W .u32 a.p a.xs) => hi0 (i0d a.p a.xs.length a.c a.xs W h rfl ha.l1)
 have HCY := fun W (h : Rd W .u32 a.q a.ys) => hi0 (i0d a.q a.ys.length a.d a.ys W h rfl ha.l2)
 obtain ⟨e1, he1⟩ : ∃ e1, b0g a.xs = e1 := ⟨_, rfl⟩
 obtain ⟨e2, he2⟩ : ∃ e2, b0g a.ys = e2 := ⟨_, rfl⟩
 obtain ⟨e3, he3⟩ : ∃ e3, errG g = e3 := ⟨_, rfl⟩
 rw [he1] at HCX
 rw [he2] at HCY
 rw [he3] at HCG
 have HE1 := hi0 he1
 have HE2 := hi0 he2
 have HE3 := hi0 he3
 clear he1 he2 he3
 go_enter Tryz.func57, Tryz.ntmps57
 go_wp2_with fail
 refine o1c (fun W1 hb1 hz1 Q G R L => ?_)
 replace ha := ha.past hb1
 have hs1 := hb1
 go_loopg [9, 10, 18] 2 (fun gk s9 s10 iv wr => ∃ i : Nat, iv = .int .i64 i ∧ gk + i = 2 ∧ Below W1.heap.size W1 wr ∧ Hid (i = 0 ∨ (i = 1 ∧ e1 = 0) ∨ (i = 2 ∧ e1 = 0 ∧ e2 = 0)))
 case atStart => exact ⟨0, rfl, rfl, Below.refl _ _, .inl rfl⟩
 case round =>
  obtain ⟨i, rfl, hgk, hb, HI⟩ := hrel
  have hs2 := hs1.trans (hb.mono hs1.size)
  replace Q := Q.past hb
  replace G := G.past hb
  replace R := R.past hb
  replace L := L.past hb
  replace ha := ha.past hb
  rcases HI.out with rfl | ⟨rfl, h10⟩ | ⟨rfl, h10, h20⟩
  · clear HI
    obtain ⟨L_0, L_1⟩ := L.e2
    go_wp2_with fail
    clear L_0 L_1
    ((with_reducible refine ((HCX _ ha.r1).out).mono ?_))
    rintro e3 w3 ⟨rfl, hb3⟩
    replace Q := Q.past hb3
    replace G := G.past hb3
    replace R := R.past hb3
    replace L := L.past hb3
    replace ha := ha.past hb3
    have hs3 := hs2.trans (hb3.mono hs2.size)
    by_cases h1 : e1 = 0
    · subst h1
      obtain ⟨L_0, L_1⟩ := L.e2
      go_wp2_with fail
      clear L_0 L_1
      go_roundg 1
      case measure => omega
      case rel => exact ⟨1, by go_num, rfl, hb.trans (hb3.mono hb.size), by unfold Hid; simp⟩
    · have t1 : (e1 == 0) = false := bFn h1
      have t2 : (e1 != 0) = true := by rw [bne, t1]; rfl
      have H1 := hi0 h1
      clear h1
      obtain ⟨R_0, R_1, R_2, R_3, R_4, R_5⟩ := R.e6
      have R_f0 := R.f 0
      have R_f1 := R.f 1
      have R_f2 := R.f 2
      have R_f3 := R.f 3
      have R_f4 := R.f 4
      have R_f5 := R.f 5
      go_wp2_with fail
      clear R_0 R_1 R_2 R_3 R_4 R_5 R_f0 R_f1 R_f2 R_f3 R_f4 R_f5
      obtain ⟨R_0, R_1, R_2, R_3, R_4, R_5⟩ := R.e6
      refine bodyPost_ret (v := .tuple #[.agg #[.bool false, .slice none 0 0, .int .i64 0, .bool false, .bool false, .bool false], .int .i64 e1]) (by simp [results, Tryz.results57, go_sem, R_0, R_1, R_2, R_3, R_4, R_5]) rfl ?_
      have e0 : er = e1 := by rw [← HER.out]; unfold c0g f0d; rw [HE1.out, if_pos H1.out, if_pos H1.out]
      subst e0
      exact d0i (HZ0.out H1.out) hs3 (by omega)
  · subst h10
    clear HI
    obtain ⟨L_0, L_1⟩ := L.e2
    go_wp2_with fail
    clear L_0 L_1
    ((with_reducible refine ((HCY _ ha.r2).out).mono ?_))
    rintro e3 w3 ⟨rfl, hb3⟩
    replace Q := Q.past hb3
    replace G := G.past hb3
    replace R := R.past hb3
    replace L := L.past hb3
    replace ha := ha.past hb3
    have hs3 := hs2.trans (hb3.mono hs2.size)
    by_cases h1 : e2 = 0
    · subst h1
      obtain ⟨L_0, L_1⟩ := L.e2
      go_wp2_with fail
      clear L_0 L_1
      go_roundg 0
      case measure => omega
      case rel => exact ⟨2, by go_num, rfl, hb.trans (hb3.mono hb.size), by unfold Hid; simp⟩
    · have t1 : (e2 == 0) = false := bFn h1
      have t2 : (e2 != 0) = true := by rw [bne, t1]; rfl
      have H1 := hi0 h1
      clear h1
      obtain ⟨R_0, R_1, R_2, R_3, R_4, R_5⟩ := R.e6
      have R_f0 := R.f 0
      have R_f1 := R.f 1
      have R_f2 := R.f 2
      have R_f3 := R.f 3
      have R_f4 := R.f 4
      have R_f5 := R.f 5
      go_wp2_with fail
      clear R_0 R_1 R_2 R_3 R_4 R_5 R_f0 R_f1 R_f2 R_f3 R_f4 R_f5
      obtain ⟨R_0, R_1, R_2, R_3, R_4, R_5⟩ := R.e6
      refine bodyPost_ret (v := .tuple #[.agg #[.bool false, .slice none 0 0, .int .i64 0, .bool false, .bool false, .bool false], .int .i64 e2]) (by simp [results, Tryz.results57, go_sem, R_0, R_1, R_2, R_3, R_4, R_5]) rfl ?_
      have e00 : f0d a = e2 := by unfold f0d; rw [HE1.out, HE2.out, if_neg (by simp), if_pos H1.out]
      have e0 : er = e2 := by rw [← HER.out]; unfold c0g; rw [e00, if_pos H1.out]
      subst e0
      exact d0i (HZ0.out H1.out) hs3 (by omega)
  · subst h10 h20
    clear HI
    have HR0 : Hid (f0d a = if a.ys.length = 0 ∨ a.e < -20000 ∨ 20000 < a.e then 3 else 0) := by
     show f0d a = _
     unfold f0d
     rw [HE1.out, HE2.out, if_neg (by simp), if_neg (by simp)]
    by_cases hy : a.ys.length = 0
    · have t1 : ((a.ys.length : Int) == 0) = true := by rw [hy]; rfl
      have e0 : er = 3 := by
       have e00 : f0d a = 3 := HR0.out.trans (if_pos (.inl hy))
       rw [← HER.out]; unfold c0g; rw [e00, if_pos (by omega)]
      subst e0
      clear hy
      obtain ⟨L_0, L_1⟩ := L.e2
      obtain ⟨Q_0, Q_1, Q_2, Q_3⟩ := Q.e4
      go_upto_region 9 with (fail)
      clear L_0 L_1 Q_0 Q_1 Q_2 Q_3
      obtain ⟨R_0, R_1, R_2, R_3, R_4, R_5⟩ := R.e6
      have R_f0 := R.f 0
      have R_f1 := R.f 1
      have R_f2 := R.f 2
      have R_f3 := R.f 3
      have R_f4 := R.f 4
      have R_f5 := R.f 5
      go_wp2_with fail
      clear R_0 R_1 R_2 R_3 R_4 R_5 R_f0 R_f1 R_f2 R_f3 R_f4 R_f5
      obtain ⟨R_0, R_1, R_2, R_3, R_4, R_5⟩ := R.e6
      refine bodyPost_ret (v := .tuple #[.agg #[.bool false, .slice none 0 0, .int .i64 0, .bool false, .bool false, .bool false], .int .i64 3]) (by simp [results, Tryz.results57, go_sem, R_0, R_1, R_2, R_3, R_4, R_5]) rfl ?_
      exact d0i (HZ0.out (by omega)) hs2 (by omega)
    · have t1 : ((a.ys.length : Int) == 0) = false := bFn (by omega)
      by_cases hf : a.e < -20000 ∨ 20000 < a.e
      · have t2 := g0f hf
        have e0 : er = 3 := by
         have e00 : f0d a = 3 := HR0.out.trans (if_pos (.inr hf))
         rw [← HER.out]; unfold c0g; rw [e00, if_pos (by omega)]
        subst e0
        clear hy hf
        obtain ⟨L_0, L_1⟩ := L.e2
        obtain ⟨Q_0, Q_1, Q_2, Q_3⟩ := Q.e4
        go_wp2_with fail
        clear L_0 L_1 Q_0 Q_1 Q_2 Q_3
        ((with_reducible refine ((c0z _ _ _ (by omega))).mono ?_))
        rintro _ _ ⟨rfl, rfl⟩
        obtain ⟨R_0, R_1, R_2, R_3, R_4, R_5⟩ := R.e6
        have R_f0 := R.f 0
        have R_f1 := R.f 1
        have R_f2 := R.f 2
        have R_f3 := R.f 3
        have R_f4 := R.f 4
        have R_f5 := R.f 5
        go_wp2_with fail
        clear R_0 R_1 R_2 R_3 R_4 R_5 R_f0 R_f1 R_f2 R_f3 R_f4 R_f5
        obtain ⟨R_0, R_1, R_2, R_3, R_4, R_5⟩ := R.e6
        refine bodyPost_ret (v := .tuple #[.agg #[.bool false, .slice none 0 0, .int .i64 0, .bool false, .bool false, .bool false], .int .i64 3]) (by simp [results, Tryz.results57, go_sem, R_0, R_1, R_2, R_3, R_4, R_5]) rfl ?_
        exact d0i (HZ0.out (by omega)) hs2 (by omega)
      · have t2 := j0t (n := a.e) (m := 20000) (by omega) (by omega)
        have HR1 : Hid (f0d a = 0) := HR0.out.trans (if_neg (by omega))
        have he1 : -20000 ≤ a.e := by omega
        have he2 : a.e ≤ 20000 := by omega
        have hy1 : 0 < a.ys.length := by omega
        clear hy hf
        obtain ⟨L_0, L_1⟩ := L.e2
        obtain ⟨Q_0, Q_1, Q_2, Q_3⟩ := Q.e4
        go_wp2_with fail
        clear L_0 L_1 Q_0 Q_1 Q_2 Q_3
        ((with_reducible refine ((c0z _ _ _ (by omega))).mono ?_))
        rintro _ _ ⟨rfl, rfl⟩
        obtain ⟨G_0, G_1, G_2, G_3, G_4⟩ := G.e5
        go_wp2_with fail
        clear G_0 G_1 G_2 G_3 G_4
        ((with_reducible refine ((HCG _).out).mono ?_))
        rintro e4 w4 ⟨rfl, hb4⟩
        replace Q := Q.past hb4
        replace G := G.past hb4
        replace R := R.past hb4
        replace L := L.past hb4
        replace ha := ha.past hb4
        have hs4 := hs2.trans (hb4.mono hs2.size)
        by_cases h3 : e3 = 0
        · subst h3
          by_cases hw : way < 1 ∨ 5 < way
          · have t4 := r0q hw
            have e0 : er = 6 := by rw [← HER.out]; unfold c0g; rw [HR1.out, HE3.out, if_neg (by simp), if_neg (by simp), if_pos hw]
            subst e0
            clear hw
            go_wp2_with fail
            ((with_reducible refine (w0f way _).mono ?_))
            rintro e5 w5 ⟨rfl, hb5⟩
            replace Q := Q.past hb5
            replace G := G.past hb5
            replace R := R.past hb5
            replace L := L.past hb5
            replace ha := ha.past hb5
            have hs5 := hs4.trans (hb5.mono hs4.size)
            obtain ⟨R_0, R_1, R_2, R_3, R_4, R_5⟩ := R.e6
            have R_f0 := R.f 0
            have R_f1 := R.f 1
            have R_f2 := R.f 2
            have R_f3 := R.f 3
            have R_f4 := R.f 4
            have R_f5 := R.f 5
            go_wp2_with fail
            clear R_0 R_1 R_2 R_3 R_4 R_5 R_f0 R_f1 R_f2 R_f3 R_f4 R_f5
            obtain ⟨R_0, R_1, R_2, R_3, R_4, R_5⟩ := R.e6
            refine bodyPost_ret (v := .tuple #[.agg #[.bool false, .slice none 0 0, .int .i64 0, .bool false, .bool false, .bool false], .int .i64 6]) (by simp [results, Tryz.results57, go_sem, R_0, R_1, R_2, R_3, R_4, R_5]) rfl ?_
            exact d0i (HZ0.out (by omega)) hs5 (by omega)
          · have t4 := w0e (k := way) (by omega) (by omega)
            have e0 : er = 0 := by rw [← HER.out]; unfold c0g; rw [HR1.out, HE3.out, if_neg (by simp), if_neg (by simp), if_neg hw]
            subst e0
            have hw1 : 1 ≤ way := by omega
            have hw2 : way ≤ 5 := by omega
            clear hw
            go_wp2_with fail
            ((with_reducible refine (w0f way _).mono ?_))
            rintro e5 w5 ⟨rfl, hb5⟩
            replace Q := Q.past hb5
            replace G := G.past hb5
            replace R := R.past hb5
            replace L := L.past hb5
            replace ha := ha.past hb5
            have hs5 := hs4.trans (hb5.mono hs4.size)
            obtain ⟨ex, lx⟩ := e0y ha.b1 HE1.out
            obtain ⟨ey, ly⟩ := e0y ha.b2 HE2.out
            have HRV2 : Hid (rv = a0m a.g (val B32 a.xs) (val B32 a.ys) a.e g way) := by
             show rv = _
             rw [← HRV.out]; unfold k0w; rw [HER.out, if_pos rfl]
            by_cases hx : a.xs.length = 0
            · have t5 : ((a.xs.length : Int) == 0) = true := by rw [hx]; rfl
              have hxs : a.xs = [] := List.eq_nil_of_length_eq_zero hx
              have hrv : rv = ⟨false, 0, 0, true, false, false⟩ := by rw [HRV2.out, hxs]; rfl
              have HRV3 := hi0 hrv
              clear hx hxs hrv ex ey
              obtain ⟨Q_0, Q_1, Q_2, Q_3⟩ := Q.e4
              obtain ⟨R_0, R_1, R_2, R_3, R_4, R_5⟩ := R.e6
              have R_f0 := R.f 0
              have R_f1 := R.f 1
              have R_f2 := R.f 2
              have R_f3 := R.f 3
              have R_f4 := R.f 4
              have R_f5 := R.f 5
              go_wp2_with fail
              clear Q_0 Q_1 Q_2 Q_3 R_0 R_1 R_2 R_3 R_4 R_5 R_f0 R_f1 R_f2 R_f3 R_f4 R_f5
              obtain ⟨R_0, R_1, R_2, R_3, R_4, R_5⟩ := R.e6
              refine bodyPost_ret (v := .tuple #[.agg #[.bool false, .slice none 0 0, .int .i64 0, .bool true, .bool false, .bool false], .int .i64 0]) (by simp [results, Tryz.results57, go_sem, R_0, R_1, R_2, R_3, R_4, R_5]) rfl ?_
              exact d0i HRV3.out hs5 (by omega)
            · have t5 : ((a.xs.length : Int) == 0) = false := bFn (by omega)
              have hnum : 0 < val B32 a.xs := by
               rcases Nat.eq_zero_or_pos (val B32 a.xs) with h | h
               · rw [h, a0c] at ex; rw [ex] at hx; simp at hx
               · exact h
              have hden : 0 < val B32 a.ys := by
               rcases Nat.eq_zero_or_pos (val B32 a.ys) with h | h
               · rw [h, a0c] at ey; rw [ey] at hy1; simp at hy1
               · exact h
              generalize val B32 a.xs = num at *
              generalize val B32 a.ys = den at *
              have GG := b0o HE3.out
              have wp := b0f g
              have hd1 := GG.d1
              have HF := fun W h1 h2 => hi0 (t0y a.g a.p a.q a.c a.d num den a.e g way _ W h1 h2 (by rw [← ex]; omega) (by rw [← ey]; omega) hnum hden ⟨by omega, by omega⟩ GG hw1 hw2 (i0s hnum hden a.e (by omega) (by omega)))
              have hrv : fitK a.g num den a.e g way (theK num den a.e (wid g) g.digs.toNat) = rv := by rw [HRV2.out]; unfold a0m; rw [if_neg (by omega)]
              rw [hrv, ← ex, ← ey] at HF
              clear hrv ex ey hx GG hd1 wp hnum hden
              obtain ⟨Q_0, Q_1, Q_2, Q_3⟩ := Q.e4
              obtain ⟨G_0, G_1, G_2, G_3, G_4⟩ := G.e5
              go_wp2_with fail
              clear Q_0 Q_1 Q_2 Q_3 G_0 G_1 G_2 G_3 G_4
              ((with_reducible refine ((HF _ ha.r1 ha.r2).out).mono ?_))
              rintro e6 w6 ⟨p6, c6, rfl, ho6, hb6⟩
              replace Q := Q.past hb6
              replace G := G.past hb6
              replace R := R.past hb6
              replace L := L.past hb6
              replace ha := ha.past hb6
              have hs6 := hs5.trans (hb6.mono hs5.size)
              obtain ⟨R_0, R_1, R_2, R_3, R_4, R_5⟩ := R.e6
              have R_f0 := R.f 0
              have R_f1 := R.f 1
              have R_f2 := R.f 2
              have R_f3 := R.f 3
              have R_f4 := R.f 4
              have R_f5 := R.f 5
              go_wp2_with fail
              clear R_0 R_1 R_2 R_3 R_4 R_5 R_f0 R_f1 R_f2 R_f3 R_f4 R_f5
              obtain ⟨R_0, R_1, R_2, R_3, R_4, R_5⟩ := R.e6
              refine bodyPost_ret (v := .tuple #[.agg #[.bool rv.neg, .slice p6 (dig B32 rv.d).length c6, .int .i64 rv.pow, .bool rv.exact, .bool rv.over, .bool rv.under], .int .i64 0]) (by simp [results, Tryz.results57, go_sem, R_0, R_1, R_2, R_3, R_4, R_5]) rfl ?_
              have hz5 := hs5.size
              exact t0z hs6 ho6 hz5 (by omega) (fun h => by have := (ho6.blk_lt h).1; have := hb5.size; have := hb4.size; have := hb.size; omega)
        · have t1 : (e3 == 0) = false := bFn h3
          have t2 : (e3 != 0) = true := by rw [bne, t1]; rfl
          have H3 := hi0 h3
          clear h3
          obtain ⟨R_0, R_1, R_2, R_3, R_4, R_5⟩ := R.e6
          have R_f0 := R.f 0
          have R_f1 := R.f 1
          have R_f2 := R.f 2
          have R_f3 := R.f 3
          have R_f4 := R.f 4
          have R_f5 := R.f 5
          go_wp2_with fail
          clear R_0 R_1 R_2 R_3 R_4 R_5 R_f0 R_f1 R_f2 R_f3 R_f4 R_f5
          obtain ⟨R_0, R_1, R_2, R_3, R_4, R_5⟩ := R.e6
          refine bodyPost_ret (v := .tuple #[.agg #[.bool false, .slice none 0 0, .int .i64 0, .bool false, .bool false, .bool false], .int .i64 e3]) (by simp [results, Tryz.results57, go_sem, R_0, R_1, R_2, R_3, R_4, R_5]) rfl ?_
          have e0 : er = e3 := by rw [← HER.out]; unfold c0g; rw [HR1.out, HE3.out, if_neg (by simp), if_pos H3.out]
          subst e0
          exact d0i (HZ0.out H3.out) hs4 (by omega)
theorem c0t (g : Gd) (w : World) :
 Calls Tryz.prog 25 #[.agg #[.int .i64 g.rad, .int .i64 g.digs, .int .i64 g.lo, .int .i64 g.hi, .bool g.grad]] w fun e w' => e = .returned (.int .i64 (wid g : Nat)) ∧ Below w.heap.size w w' := by
 obtain ⟨rad, digs, lo, hi, grad⟩ := g
 simp only
 unfold wid
 simp only
 have hb : Below w.heap.size w (w.alloc (.cells #[.int .i64 rad, .int .i64 digs, .int .i64 lo, .int .i64 hi, .bool grad] 44)) := c0p _ _
 by_cases h : rad = 16
 · subst h
   go_enter Tryz.func25, Tryz.ntmps25
   go_wp2
   go_ret
   exact ⟨by simp, hb⟩
 · have h1 : (rad == 16) = false := bFn h
   rw [if_neg h]
   clear h
   go_enter Tryz.func25, Tryz.ntmps25
   go_wp2
   go_ret
   exact ⟨rfl, hb⟩
theorem y0v (way : Int) (neg odd : Bool) (half : Int) (w : World) (h1 : 1 ≤ way) (h2 : way ≤ 5) :
 Calls Tryz.prog 128 #[.int .i64 way, .bool neg, .bool odd, .int .i64 half] w fun e w' => e = .returned (.bool (f0k way neg odd half)) ∧ w = w' := by
 obtain rfl | rfl | rfl | rfl | rfl : way = 1 ∨ way = 2 ∨ way = 3 ∨ way = 4 ∨ way = 5 := by omega
 · clear h1 h2
   unfold f0k
   simp only [if_true]
   by_cases h : 0 < half
   · go_enter Tryz.func128, Tryz.ntmps128
     go_wp2
     go_ret
     exact ⟨by simp [h], rfl⟩
   · by_cases h0 : half = 0
     · subst h0
       cases odd
       · go_enter Tryz.func128, Tryz.ntmps128
         go_wp2
         go_ret
         exact ⟨rfl, rfl⟩
       · go_enter Tryz.func128, Tryz.ntmps128
         go_wp2
         go_ret
         exact ⟨rfl, rfl⟩
     · have t0 : (half == 0) = false := bFn h0
       have H := hi0 h0
       clear h0
       go_enter Tryz.func128, Tryz.ntmps128
       go_wp2
       go_ret
       exact ⟨by simp [H.out, show ¬ 0 < half from by omega], rfl⟩
 · clear h1 h2
   have e : f0k 2 neg odd half = decide (0 ≤ half) := rfl
   rw [e]
   clear e
   by_cases h : 0 ≤ half
   · go_enter Tryz.func128, Tryz.ntmps128
     go_wp2
     go_ret
     exact ⟨by simp [h], rfl⟩
   · go_enter Tryz.func128, Tryz.ntmps128
     go_wp2
     go_ret
     exact ⟨by simp; omega, rfl⟩
 · clear h1 h2
   have e : f0k 3 neg odd half = false := rfl
   rw [e]
   clear e
   go_enter Tryz.func128, Tryz.ntmps128
   go_wp2
   go_ret
   exact ⟨rfl, rfl⟩
 · clear h1 h2
   have e : f0k 4 neg odd half = !neg := rfl
   rw [e]
   clear e
   go_enter Tryz.func128, Tryz.ntmps128
   go_wp2
   go_ret
   exact ⟨rfl, rfl⟩
 · clear h1 h2
   have e : f0k 5 neg odd half = neg := rfl
   rw [e]
   clear e
   go_enter Tryz.func128, Tryz.ntmps128
   go_wp2
   go_ret
   exact ⟨rfl, rfl⟩
theorem k0x (p q : OA) (n m c d : Nat) (a b : Nat) (w : World) (hp : Rd w .i64 p (dig B16 a)) (hq : Rd w .i64 q (dig B16 b)) (hn : n = (dig B16 a).length) (hm : m = (dig B16 b).length)
 (hl : (dig B16 a).length + (dig B16 b).length ≤ 1000000000) :
 Calls Tryz.prog 26 #[.slice p n c, .slice q m d] w (e0n w .i64 (dig B16 (a + b))) := by
 subst hn hm
 have HXL := hi0 (b0d a0e a)
 have HYL := hi0 (b0d a0e b)
 obtain ⟨xs, hxs⟩ : ∃ xs, xs = dig B16 a := ⟨_, rfl⟩
 obtain ⟨ys, hys⟩ : ∃ ys, ys = dig B16 b := ⟨_, rfl⟩
 rw [← hxs] at hp hl HXL ⊢
 rw [← hys] at hq hl HYL ⊢
 have HA := hi0 hxs
 have HB := hi0 hys
 clear hxs hys
 have hsx := hp.solid
 have hsy := hq.solid
 go_enter Tryz.func26, Tryz.ntmps26
 go_wp2
 go_loopg [5, 6, 7] (xs.length + ys.length + 2) (fun g ov cv iv wr => ∃ (i cr : Nat) (t : OA) (e : Nat) (O : List Nat), iv = .int .i64 i ∧ cv = .int .i64 cr ∧ ov = .slice t O.length e ∧ g + i = xs.length + ys.length + 2 ∧ cr ≤ 1 ∧ i ≤ xs.length + ys.length + 1 ∧ Hid (O.length = i) ∧
     Own wr w.heap.size .i64 3 t e O ∧ Below w.heap.size w wr ∧ Hid (h0u O xs ys i cr))
 case atStart => exact ⟨0, 0, none, 0, [], rfl, rfl, rfl, rfl, by omega, by omega, rfl, Own.nil _ _ _ _, Below.refl _ _, h0u.start xs ys⟩
 case round =>
  obtain ⟨i, cr, t, e, O, rfl, rfl, rfl, hg, hcr, hi, hO, hoq, hb, HR⟩ := hrel
  have hpL := hp.past hb
  have hqL := hq.past hb
  have hxd := a0n (B := 65536) (by omega) xs HXL.out i
  have hyd := a0n (B := 65536) (by omega) ys HYL.out i
  have hi2 : 0 < i → cr = 1 → i ≤ xs.length ∨ i ≤ ys.length := fun h1 h2 => by have := HR.out.2.2.2.2; omega
  by_cases h1 : i < xs.length
  · have hc1 := hpL.cells i h1
    have HS := HR.out.step hxd hyd (.inl h1)
    by_cases h2 : i < ys.length
    · have hc2 := hqL.cells i h2
      have HS := hi0 HS
      clear hi2
      go_wp2_with (first
        | (refine a0r rfl _ _ rfl tyN _ ?_ rfl ?_; omega; intro p2 w2 ho2 hb2 hz2 hp2)
        | (at_builtin; refine a0z rfl _ _ _ rfl tyN _ _ _ _ _ (hoq.past hb2) rfl _ _ _ _ ho2.rd rfl rfl rfl ?_ ?_ ?_; (have := hO.out; simp; omega); (have := hb2.size; have := hb.size; omega); intro p3 c3 w3 ho3 hg3 hb3 hn3))
      have hb4 := hb.trans ((hb2.mono hb.size).trans hb3)
      have e4 : (((cr : Int) + dg xs i + dg ys i : Int) % 65536).toNat = (cr + dg xs i + dg ys i) % B16 := by unfold B16; omega
      rw [e4] at ho3
      go_roundg (xs.length + ys.length + 1 - i)
      case measure => omega
      case rel => exact ⟨i + 1, (cr + dg xs i + dg ys i) / B16, p3, c3, _, by go_num, (by unfold B16; go_num), by simp, by omega, HS.out.2.2.1, by omega, (by show (O ++ _).length = i + 1; have := hO.out; simp; omega), ho3, hb4, HS⟩
    · have ez : dg ys i = 0 := b0n (by omega)
      rw [ez] at HS
      have HS := hi0 HS
      clear ez hyd hi2
      go_wp2_with (first
        | (refine a0r rfl _ _ rfl tyN _ ?_ rfl ?_; omega; intro p2 w2 ho2 hb2 hz2 hp2)
        | (at_builtin; refine a0z rfl _ _ _ rfl tyN _ _ _ _ _ (hoq.past hb2) rfl _ _ _ _ ho2.rd rfl rfl rfl ?_ ?_ ?_; (have := hO.out; simp; omega); (have := hb2.size; have := hb.size; omega); intro p3 c3 w3 ho3 hg3 hb3 hn3))
      have hb4 := hb.trans ((hb2.mono hb.size).trans hb3)
      have e4 : (((cr : Int) + dg xs i : Int) % 65536).toNat = (cr + dg xs i + 0) % B16 := by unfold B16; omega
      rw [e4] at ho3
      go_roundg (xs.length + ys.length + 1 - i)
      case measure => omega
      case rel => exact ⟨i + 1, (cr + dg xs i + 0) / B16, p3, c3, _, by go_num, (by unfold B16; go_num), by simp, by omega, HS.out.2.2.1, by omega, (by show (O ++ _).length = i + 1; have := hO.out; simp; omega), ho3, hb4, HS⟩
  · have ex : dg xs i = 0 := b0n (by omega)
    by_cases h2 : i < ys.length
    · have hc2 := hqL.cells i h2
      have HS := HR.out.step hxd hyd (.inr (.inl h2))
      rw [ex] at HS
      have HS := hi0 HS
      clear ex hxd hi2
      go_wp2_with (first
        | (refine a0r rfl _ _ rfl tyN _ ?_ rfl ?_; omega; intro p2 w2 ho2 hb2 hz2 hp2)
        | (at_builtin; refine a0z rfl _ _ _ rfl tyN _ _ _ _ _ (hoq.past hb2) rfl _ _ _ _ ho2.rd rfl rfl rfl ?_ ?_ ?_; (have := hO.out; simp; omega); (have := hb2.size; have := hb.size; omega); intro p3 c3 w3 ho3 hg3 hb3 hn3))
      have hb4 := hb.trans ((hb2.mono hb.size).trans hb3)
      have e4 : (((cr : Int) + dg ys i : Int) % 65536).toNat = (cr + 0 + dg ys i) % B16 := by unfold B16; omega
      rw [e4] at ho3
      go_roundg (xs.length + ys.length + 1 - i)
      case measure => omega
      case rel => exact ⟨i + 1, (cr + 0 + dg ys i) / B16, p3, c3, _, by go_num, (by unfold B16; go_num), by simp, by omega, HS.out.2.2.1, by omega, (by show (O ++ _).length = i + 1; have := hO.out; simp; omega), ho3, hb4, HS⟩
    · have ey : dg ys i = 0 := b0n (by omega)
      by_cases h3 : 0 < cr
      · have HS := HR.out.step hxd hyd (.inr (.inr h3))
        rw [ex, ey] at HS
        have HS := hi0 HS
        have hi3 : i ≤ xs.length + ys.length := by
         by_cases h0 : 0 < i
         · have := hi2 h0 (by omega); omega
         · omega
        clear ex ey hxd hyd hi2
        go_wp2_with (first
          | (refine a0r rfl _ _ rfl tyN _ ?_ rfl ?_; omega; intro p2 w2 ho2 hb2 hz2 hp2)
          | (at_builtin; refine a0z rfl _ _ _ rfl tyN _ _ _ _ _ (hoq.past hb2) rfl _ _ _ _ ho2.rd rfl rfl rfl ?_ ?_ ?_; (have := hO.out; simp; omega); (have := hb2.size; have := hb.size; omega); intro p3 c3 w3 ho3 hg3 hb3 hn3))
        have hb4 := hb.trans ((hb2.mono hb.size).trans hb3)
        have e4 : (((cr : Int) : Int) % 65536).toNat = (cr + 0 + 0) % B16 := by unfold B16; omega
        rw [e4] at ho3
        go_roundg (xs.length + ys.length + 1 - i)
        case measure => omega
        case rel => exact ⟨i + 1, (cr + 0 + 0) / B16, p3, c3, _, by go_num, (by unfold B16; go_num), by simp, by omega, HS.out.2.2.1, by omega, (by show (O ++ _).length = i + 1; have := hO.out; simp; omega), ho3, hb4, HS⟩
      · obtain rfl : cr = 0 := by omega
        have HD := hi0 (HR.out.done (by omega) (by omega) HA.out HB.out)
        clear ex ey hxd hyd hi2
        go_wp2
        go_ret
        exact w0b HD.out rfl hoq hb
theorem d0o (p q : OA) (n m c d : Nat) (a b : Nat) (w : World) (hp : Rd w .i64 p (dig B16 a)) (hq : Rd w .i64 q (dig B16 b)) (hn : n = (dig B16 a).length) (hm : m = (dig B16 b).length)
 (hl : (dig B16 a).length ≤ 1000000000) (hl2 : (dig B16 b).length ≤ 1000000000) :
 Calls Tryz.prog 27 #[.slice p n c, .slice q m d] w fun e w' => e = .returned (.int .i64 (cmpN a b)) ∧ Below w.heap.size w w' := by
 subst hn hm
 by_cases hlt : (dig B16 a).length < (dig B16 b).length
 · have H := hi0 (g0u (j0k a0e hlt))
   go_enter Tryz.func27, Tryz.ntmps27
   go_wp2
   go_ret
   exact ⟨g0y H.out, Below.refl _ _⟩
 · by_cases hgt : (dig B16 b).length < (dig B16 a).length
   · have H := hi0 (m0r (j0k a0e hgt))
     go_enter Tryz.func27, Tryz.ntmps27
     go_wp2
     go_ret
     exact ⟨g0y H.out, Below.refl _ _⟩
   · have hle : (dig B16 b).length = (dig B16 a).length := by omega
     have HXL := hi0 (b0d a0e a)
     have HYL := hi0 (b0d a0e b)
     have HA := hi0 (b0a a0e a)
     have HB := hi0 (b0a a0e b)
     rw [hle]
     have HL := hi0 hle
     have hly := Nat.le_of_eq hle.symm
     clear hlt hgt hle
     generalize dig B16 a = xs at *
     generalize dig B16 b = ys at *
     have hsx := hp.solid
     have hsy := hq.solid
     rw [HL.out] at hsy
     go_enter Tryz.func27, Tryz.ntmps27
     go_wp2
     go_loopw [5] (fun iv wr => ∃ (k : Nat), iv = .int .i64 ((k : Int) - 1) ∧ k ≤ xs.length ∧ Below w.heap.size w wr ∧ Hid (xs.drop k = ys.drop k)) (fun iv _ => (intOf iv + 1).toNat)
     case atStart => exact ⟨xs.length, rfl, Nat.le_refl _, Below.refl _ _, (show xs.drop _ = ys.drop _ by rw [List.drop_length, List.drop_of_length_le (by have := HL.out; omega)])⟩
     case round =>
      obtain ⟨k, rfl, hk, hb, HD⟩ := hrel
      by_cases h0 : 0 < k
      · obtain ⟨k, rfl⟩ : ∃ j, k = j + 1 := ⟨k - 1, by omega⟩
        have ej : ((k + 1 : Nat) : Int) - 1 = k := by omega
        rw [ej]
        have hxd := a0n (B := 65536) (by omega) xs HXL.out k
        have hyd := a0n (B := 65536) (by omega) ys HYL.out k
        have hc1 := (hp.past hb).cells k (by omega)
        have hc2 := (hq.past hb).cells k (by omega)
        have i1 : (k : Int) < (xs.length : Int) := by omega
        have i0 : (0 : Int) ≤ (k : Int) := by omega
        clear ej
        by_cases h1 : dg xs k < dg ys k
        · have H := hi0 (g0u (by have := s0i xs ys HXL.out k (by omega) HL.out.symm HD.out h1; rwa [HA.out, HB.out] at this))
          go_wp2_with fail
          go_quiet (fail)
          go_wp2
          go_ret
          exact ⟨g0y H.out, hb.trans (by first | exact below_drewN (Below.refl _ _) _ | exact below_drewN (below_drewN (Below.refl _ _) _) _)⟩
        · by_cases h2 : dg ys k < dg xs k
          · have H := hi0 (m0r (by have := s0i ys xs HYL.out k (by have := HL.out; omega) HL.out HD.out.symm h2; rwa [HA.out, HB.out] at this))
            go_wp2_with fail
            go_quiet (fail)
            go_wp2_with fail
            go_quiet (fail)
            go_wp2
            go_ret
            exact ⟨g0y H.out, hb.trans (by first | exact below_drewN (Below.refl _ _) _ | exact below_drewN (below_drewN (Below.refl _ _) _) _)⟩
          · have h3 : dg xs k = dg ys k := by omega
            have HE := hi0 (r0a (by omega) HL.out.symm HD.out h3)
            rw [← h3] at hc2
            clear h3 h1 h2
            go_wp2_with fail
            go_quiet (fail)
            go_wp2_with fail
            go_quiet (fail)
            go_wp2
            go_roundw
            case rel => exact ⟨k, rfl, by omega, hb.trans (by first | exact below_drewN (Below.refl _ _) _ | exact below_drewN (below_drewN (Below.refl _ _) _) _), HE⟩
            case measure => first | (simp [intOf]; done) | (simp [intOf]; omega)
      · obtain rfl : k = 0 := by omega
        have H : cmpN a b = 0 := by
         have := HD.out
         simp only [List.drop_zero] at this
         rw [← HA.out, ← HB.out, this]; exact o0e _
        have H := hi0 H
        go_wp2
        go_ret
        exact ⟨g0y H.out, hb⟩
theorem d0a (p : OA) (n c : Nat) (a : Nat) (w : World) (hp : Rd w .i64 p (dig B16 a)) (hn : n = (dig B16 a).length) (hl : (dig B16 a).length ≤ 1000000000) :
 Calls Tryz.prog 66 #[.slice p n c] w fun e w' => e = .returned (.int .i64 (blen a : Nat)) ∧ w = w' := by
 subst hn
 by_cases h0 : 0 < a
 · obtain ⟨hb, ht⟩ := l0c (B := B16) (s := 16) (by decide) a0e a h0
   have hl0 : 0 < (dig B16 a).length := List.length_pos_iff.2 ((d0j a0e a).2.2.2 h0)
   have HB := hi0 hb
   have hd := a0n (B := 65536) (by omega) _ (b0d a0e a) ((dig B16 a).length - 1)
   clear hb
   generalize dig B16 a = xs at *
   have hs := hp.solid
   have hc := hp.cells (xs.length - 1) (by omega)
   have hbd : blen (dg xs (xs.length - 1)) ≤ 16 := (a0u _ 16).2 (by omega)
   generalize dg xs (xs.length - 1) = d at *
   go_enter Tryz.func66, Tryz.ntmps66
   go_wp2
   go_loop [3, 4] (fun nv dv => ∃ (m t : Nat), nv = .int .i64 m ∧ dv = .int .i64 t ∧ t ≤ d ∧ m + blen t = 16 * (xs.length - 1) + blen d) (fun _ dv => (intOf dv).toNat)
   case atStart => exact ⟨16 * (xs.length - 1), d, by go_num, rfl, Nat.le_refl _, rfl⟩
   case round =>
    obtain ⟨m, t, rfl, rfl, htd, hm⟩ := hrel
    by_cases h1 : 0 < t
    · have hh := v0c t h1
      have hh2 : m + 1 + blen (t / 2) = 16 * (xs.length - 1) + blen d := by omega
      clear hh
      go_wp2
      go_round
      case rel => exact ⟨m + 1, t / 2, by go_num, by go_num, by omega, hh2⟩
      case measure => simp [intOf]; omega
    · obtain rfl : t = 0 := by omega
      rw [l0b] at hm
      have HM := hi0 (show blen a = m by rw [HB.out]; exact hm.symm)
      go_wp2
      go_ret
      rw [HM.out]
      exact ⟨rfl, rfl⟩
 · obtain rfl : a = 0 := by omega
   rw [l0b]
   rw [a0c] at *
   go_enter Tryz.func66, Tryz.ntmps66
   go_wp2
   go_ret
   exact ⟨rfl, rfl⟩
end Go.Proofs.YtpgomglbaacmdaaGreatDoor
namespace Go.Slip
theorem k1z {d r : Nat} (h0 : 0 < d) (h : d < 65536) : tz (d + 65536 * r) = tz d := by
 obtain ⟨h1, h2⟩ := b0t d h0
 have hle : tz d < 16 := by
  rcases Nat.lt_or_ge (tz d) 16 with h3 | h3
  · exact h3
  · have h4 : 2 ^ 16 ≤ 2 ^ tz d := Nat.pow_le_pow_right (by omega) h3
    have h5 : 0 < d / 2 ^ tz d := by
     rcases Nat.eq_zero_or_pos (d / 2 ^ tz d) with h | h
     · rw [h] at h2; simp at h2
     · exact h
    have h6 := Nat.mul_le_mul_left (2 ^ tz d) h5
    simp only [Nat.succ_eq_add_one, Nat.zero_add, Nat.mul_one] at h6
    omega
 obtain ⟨t, ht⟩ : ∃ t, t = tz d := ⟨_, rfl⟩
 rw [← ht] at h1 h2 hle ⊢
 obtain ⟨s, hs⟩ : ∃ s, 16 = t + (s + 1) := ⟨15 - t, by omega⟩
 have e : d + 65536 * r = (d / 2 ^ t + 2 * (2 ^ s * r)) * 2 ^ t := by
  have e1 : (65536 : Nat) = 2 ^ t * (2 ^ s * 2) := by
   rw [show (65536 : Nat) = 2 ^ 16 by decide, hs, Nat.pow_add, Nat.pow_succ]
  rw [e1, Nat.add_mul]
  conv => lhs; rw [← h1]
  grind
 rw [e]
 exact z0z _ _ (by omega)
theorem l1a {xs : List Nat} {a i : Nat} (ha : val B16 xs = a) (hz : ∀ j, j < i → dg xs j = 0) (hd : 0 < dg xs i) (hl : dg xs i < 65536) : tz a = 16 * i + tz (dg xs i) := by
 have h1 := b0i B16 xs i
 have h2 : val B16 (xs.take i) = 0 := by
  have : xs.take i = List.replicate (xs.take i).length 0 := by
   apply c0u
   · simp
   · intro t ht
     simp only [List.length_take] at ht
     rw [f0g (by omega), c0s, hz t (by omega)]
  rw [this, c0f]
 rw [h2, g0c, Nat.zero_add] at h1
 have e : a = (dg xs i + 65536 * val B16 (xs.drop (i + 1))) * 2 ^ (16 * i) := by
  rw [← ha, h1, Nat.pow_mul, show (2 : Nat) ^ 16 = B16 by decide, Nat.mul_comm]
  rfl
 rw [e, a1a (by omega), k1z hd hl]
 omega
def h0a (xs : List Nat) (j n : Nat) : Prop := n = 16 * j ∧ ∀ i, i < j → dg xs i = 0
theorem h0a.start (xs : List Nat) : h0a xs 0 0 := ⟨rfl, fun i hi => by omega⟩
theorem h0a.step {xs : List Nat} {j n : Nat} (h : h0a xs j n) (hz : dg xs j = 0) : h0a xs (j + 1) (n + 16) :=
 ⟨by have := h.1; omega, fun i hi => by
   by_cases he : i = j
   · subst he; exact hz
   · exact h.2 i (by omega)⟩
theorem h0a.lt {xs : List Nat} {j n m : Nat} (h : h0a xs j n) (hv : val B16 xs = m) (h0 : 0 < m) : j < xs.length := by
 rcases Nat.lt_or_ge j xs.length with h1 | h1
 · exact h1
 · have := o0j (B := B16) (xs := xs) (fun i hi => h.2 i (by omega))
   omega
def m0c (m d n : Nat) : Prop := ∃ t, n + tz d = t ∧ t = tz m ∧ 0 < d
theorem m0c.start {xs : List Nat} {j n m : Nat} (h : h0a xs j n) (hv : val B16 xs = m) (h0 : 0 < dg xs j) (hl : dg xs j < 65536) : m0c m (dg xs j) n :=
 ⟨_, rfl, by rw [l1a hv h.2 h0 hl, h.1], h0⟩
theorem m0c.step {m d n : Nat} (h : m0c m d n) (he : d % 2 = 0) : m0c m (d / 2) (n + 1) := by
 obtain ⟨t, h1, h2, h3⟩ := h
 rw [s0m h3 he] at h1
 exact ⟨t, by omega, h2, by omega⟩
theorem m0c.done {m d n : Nat} (h : m0c m d n) (he : d % 2 = 1) : n = tz m := by
 obtain ⟨t, h1, h2, h3⟩ := h
 rw [v0d he] at h1
 omega
theorem h0m (a : Nat) : blen a ≤ 16 * (dig B16 a).length := by
 rw [a0u, Nat.pow_mul]
 exact (a0h a0e a _).1 (Nat.le_refl _)
end Go.Slip
namespace Go.Proofs.YtpgomglbaacmdaaGreatDoor
open Go.RowKit Go.Slip
theorem p1q (g : Gd) : wid g = 1 ∨ wid g = 4 := by unfold wid; split <;> simp
theorem l1b {x : Int} {wd : Nat} (h : wd = 1 ∨ wd = 4) (hx : -80000 ≤ x) : (x + 80000).tdiv wd = (x + 80000) / wd ∧ (80000 : Int).tdiv wd = 80000 / wd ∧ (x + 80000) / wd - 80000 / wd = x / wd := by
 refine ⟨Int.tdiv_eq_ediv_of_nonneg (by omega), Int.tdiv_eq_ediv_of_nonneg (by omega), ?_⟩
 rcases h with rfl | rfl <;> omega
theorem u0a (s : Bool) (p : OA) (n c : Nat) (e : Int) (m : Nat) (g : Gd) (w : World) (hp : Rd w .i64 p (dig B16 m)) (hn : n = (dig B16 m).length) (hl : (dig B16 m).length ≤ 100000) (he : -1000000 ≤ e ∧ e ≤ 1000000) (G : e0j g) :
 Calls Tryz.prog 29 #[.agg #[.bool s, .slice p n c, .int .i64 e], .agg #[.int .i64 g.rad, .int .i64 g.digs, .int .i64 g.lo, .int .i64 g.hi, .bool g.grad]] w fun en w' => en = .returned (.bool (a0p ⟨s, m, e⟩ g)) ∧ Below w.heap.size w w' := by
 subst hn
 have hz := a0f a0e m
 by_cases h0 : m = 0
 · have hk : a0p ⟨s, m, e⟩ g = true := by unfold a0p; rw [if_pos h0]
   have t0 : (((dig B16 m).length : Int) == 0) = true := by rw [hz.2 h0]; rfl
   rw [hk]
   clear hk h0 hz
   go_enter Tryz.func29, Tryz.ntmps29
   go_wp2
   go_ret
   exact ⟨rfl, f0v _ _ _⟩
 · have t0 : (((dig B16 m).length : Int) == 0) = false := bFn (by omega)
   have HWD := fun W => hi0 (c0t g W)
   have wp := b0f g
   have wt := p1q g
   obtain ⟨_, gd1, gd2, gl1, gl2, gh1, gh2, gle⟩ := G
   obtain ⟨D, hD⟩ : ∃ D : Nat, g.digs = D := ⟨g.digs.toNat, by omega⟩
   have hDt : g.digs.toNat = D := by omega
   have bm := h0m m
   have b0 := (e0h m).2 (by omega)
   have hig : a0p ⟨s, m, e⟩ g = if e < wid g * g.lo ∨ wid g * (g.hi + D) < e + blen m then false else
    if (e + blen m - 1) / wid g - D + 1 < g.lo then (if g.grad then decide (wid g * g.lo ≤ e) else false) else decide (wid g * ((e + blen m - 1) / wid g - D + 1) ≤ e) := by
    unfold a0p
    rw [if_neg h0, hDt, hD]
    rfl
   rw [hig]
   obtain ⟨rad, digs, lo, hi, grad⟩ := g
   simp only at *
   subst hD
   obtain ⟨wd, hwd⟩ : ∃ wd, wid ⟨rad, D, lo, hi, grad⟩ = wd := ⟨_, rfl⟩
   rw [hwd] at wp wt HWD ⊢
   have HWT := hi0 wt
   obtain ⟨L, hL⟩ : ∃ L, blen m = L := ⟨_, rfl⟩
   have HL := hi0 hL
   have hlo := j0d (k := lo) wp.2 (B := 17000) ⟨gl1, gl2⟩
   have hhi := j0d (k := hi + (D : Int)) wp.2 (B := 17200) ⟨by omega, by omega⟩
   have e0 : IntKind.i64.wrap (e + ((blen m : Nat) : Int)) = e + (L : Int) := by rw [iwo, hL]
   rw [hL] at bm b0 ⊢
   clear hz h0 hig hDt wt hwd hL
   by_cases h1 : e < wd * lo
   · rw [if_pos (.inl h1)]
     go_enter Tryz.func29, Tryz.ntmps29
     go_wp2_with fail
     refine h0f (fun W1 hb1 hz1 A B => ?_)
     replace hp := hp.past hb1
     have hs1 := hb1
     ((with_reducible refine ((HWD _).out).mono ?_))
     rintro e2 w2 ⟨rfl, hb2⟩
     replace A := A.past hb2
     replace B := B.past hb2
     replace hp := hp.past hb2
     have hs2 := hs1.trans (hb2.mono hs1.size)
     obtain ⟨A_0, A_1, A_2⟩ := A.e3
     obtain ⟨B_0, B_1, B_2, B_3, B_4⟩ := B.e5
     go_wp2_with fail
     clear A_0 A_1 A_2 B_0 B_1 B_2 B_3 B_4
     obtain ⟨A_0, A_1, A_2⟩ := A.e3
     go_quiet ((go_at_call 66; exact Calls.quiet_of_same ((d0a p _ c m _ (hp.drewN _) rfl (by clear e0; omega)).mono fun _ _ h => ⟨h.1, h.2.symm⟩)))
     clear A_0 A_1 A_2
     have hb3 := below_drewN (Below.refl (w2).heap.size (w2)) nq
     replace A := A.past hb3
     replace B := B.past hb3
     replace hp := hp.past hb3
     have hs3 := hs2.trans (hb3.mono hs2.size)
     generalize (w2).drewN nq = w3 at *
     clear e0
     obtain ⟨A_0, A_1, A_2⟩ := A.e3
     go_wp2_with fail
     clear A_0 A_1 A_2
     go_ret
     exact ⟨rfl, hs3⟩
   · by_cases h2 : wd * (hi + D) < e + L
     · rw [if_pos (.inr h2)]
       go_enter Tryz.func29, Tryz.ntmps29
       go_wp2_with fail
       refine h0f (fun W1 hb1 hz1 A B => ?_)
       replace hp := hp.past hb1
       have hs1 := hb1
       ((with_reducible refine ((HWD _).out).mono ?_))
       rintro e2 w2 ⟨rfl, hb2⟩
       replace A := A.past hb2
       replace B := B.past hb2
       replace hp := hp.past hb2
       have hs2 := hs1.trans (hb2.mono hs1.size)
       obtain ⟨A_0, A_1, A_2⟩ := A.e3
       obtain ⟨B_0, B_1, B_2, B_3, B_4⟩ := B.e5
       go_wp2_with fail
       clear A_0 A_1 A_2 B_0 B_1 B_2 B_3 B_4
       obtain ⟨A_0, A_1, A_2⟩ := A.e3
       go_quiet ((go_at_call 66; exact Calls.quiet_of_same ((d0a p _ c m _ (hp.drewN _) rfl (by clear e0; omega)).mono fun _ _ h => ⟨h.1, h.2.symm⟩)))
       clear A_0 A_1 A_2
       have hb3 := below_drewN (Below.refl (w2).heap.size (w2)) nq
       replace A := A.past hb3
       replace B := B.past hb3
       replace hp := hp.past hb3
       have hs3 := hs2.trans (hb3.mono hs2.size)
       generalize (w2).drewN nq = w3 at *
       clear e0
       obtain ⟨A_0, A_1, A_2⟩ := A.e3
       go_wp2_with fail
       clear A_0 A_1 A_2
       go_ret
       exact ⟨rfl, hs3⟩
     · rw [if_neg (by omega)]
       have hxb : -80000 ≤ e + (L : Int) - 1 ∧ e + (L : Int) - 1 ≤ 3000000 := by omega
       obtain ⟨f1, f2, f3⟩ := l1b HWT.out hxb.1
       have q1 := i0f (wd := wd) (x := e + (L : Int) - 1 + 80000) (B := 4000000) wp.1 (by omega)
       have q2 := i0f (wd := wd) (x := 80000) (B := 80000) wp.1 (by omega)
       have q3 := i0f (wd := wd) (x := e + (L : Int) - 1) (B := 4000000) wp.1 (by omega)
       have hb := f0j (e + (L : Int) - 1) wd wp.1
       have y0 : IntKind.i64.wrap (e + (L : Int) - 1) = e + (L : Int) - 1 := iwo
       have y1 : IntKind.i64.wrap (e + (L : Int) - 1 + 80000) = e + (L : Int) - 1 + 80000 := iwo
       have y2 : IntKind.i64.wrap ((e + (L : Int) - 1 + 80000).tdiv (wd : Int)) = (e + (L : Int) - 1 + 80000) / (wd : Int) := by rw [f1, iwo]
       have y3 : IntKind.i64.wrap ((80000 : Int).tdiv (wd : Int)) = 80000 / (wd : Int) := by rw [f2, iwo]
       have y4 : IntKind.i64.wrap ((e + (L : Int) - 1 + 80000) / (wd : Int) - 80000 / (wd : Int)) = (e + (L : Int) - 1) / (wd : Int) := by rw [f3, iwo]
       have y5 : IntKind.i64.wrap ((e + (L : Int) - 1) / (wd : Int) - (D : Int)) = (e + (L : Int) - 1) / (wd : Int) - D := iwo
       obtain ⟨K, hK⟩ : ∃ K, (e + (L : Int) - 1) / (wd : Int) - D + 1 = K := ⟨_, rfl⟩
       have y6 : IntKind.i64.wrap ((e + (L : Int) - 1) / (wd : Int) - (D : Int) + 1) = K := by rw [iwo, hK]
       have t1 : ((wd : Int) == 0) = false := bFn (by omega)
       have hKm : -20000000 ≤ (wd : Int) * K ∧ (wd : Int) * K ≤ 20000000 := j0d (k := K) wp.2 (B := 5000000) ⟨by omega, by omega⟩
       rw [hK]
       have Y0 := hi0 y0
       have Y1 := hi0 y1
       have Y2 := hi0 y2
       have Y3 := hi0 y3
       have Y4 := hi0 y4
       have Y5 := hi0 y5
       have Y6 := hi0 y6
       have T1 := hi0 t1
       clear f1 f2 f3 hK y0 y1 y2 y3 y4 y5 y6 t1
       go_enter Tryz.func29, Tryz.ntmps29
       go_wp2_with fail
       refine h0f (fun W1 hb1 hz1 A B => ?_)
       replace hp := hp.past hb1
       have hs1 := hb1
       ((with_reducible refine ((HWD _).out).mono ?_))
       rintro e2 w2 ⟨rfl, hb2⟩
       replace A := A.past hb2
       replace B := B.past hb2
       replace hp := hp.past hb2
       have hs2 := hs1.trans (hb2.mono hs1.size)
       obtain ⟨A_0, A_1, A_2⟩ := A.e3
       obtain ⟨B_0, B_1, B_2, B_3, B_4⟩ := B.e5
       go_wp2_with fail
       clear A_0 A_1 A_2 B_0 B_1 B_2 B_3 B_4
       obtain ⟨A_0, A_1, A_2⟩ := A.e3
       go_quiet ((go_at_call 66; exact Calls.quiet_of_same ((d0a p _ c m _ (hp.drewN _) rfl (by clear e0; omega)).mono fun _ _ h => ⟨h.1, h.2.symm⟩)))
       clear A_0 A_1 A_2
       have hb3 := below_drewN (Below.refl (w2).heap.size (w2)) nq
       replace A := A.past hb3
       replace B := B.past hb3
       replace hp := hp.past hb3
       have hs3 := hs2.trans (hb3.mono hs2.size)
       generalize (w2).drewN nq = w3 at *
       clear e0
       obtain ⟨A_0, A_1, A_2⟩ := A.e3
       obtain ⟨B_0, B_1, B_2, B_3, B_4⟩ := B.e5
       go_wp2_with fail
       clear A_0 A_1 A_2 B_0 B_1 B_2 B_3 B_4
       have y0 := Y0.out
       have y1 := Y1.out
       have y2 := Y2.out
       have y3 := Y3.out
       have y4 := Y4.out
       have y5 := Y5.out
       have y6 := Y6.out
       have t1 := T1.out
       obtain ⟨B_0, B_1, B_2, B_3, B_4⟩ := B.e5
       go_quiet (fail)
       clear B_0 B_1 B_2 B_3 B_4
       have hb4 := below_drewN (Below.refl (w3).heap.size (w3)) nq
       replace A := A.past hb4
       replace B := B.past hb4
       replace hp := hp.past hb4
       have hs4 := hs3.trans (hb4.mono hs3.size)
       generalize (w3).drewN nq = w4 at *
       clear y0 y1 y2 y3 y4 y5 y6 t1
       by_cases h3 : K < lo
       · cases grad
         · have t5 := True.intro
           obtain ⟨A_0, A_1, A_2⟩ := A.e3
           obtain ⟨B_0, B_1, B_2, B_3, B_4⟩ := B.e5
           go_wp2_with fail
           clear A_0 A_1 A_2 B_0 B_1 B_2 B_3 B_4
           go_ret
           exact ⟨by simp, hs4⟩
         · by_cases h4 : wd * lo ≤ e
           · have t5 := True.intro
             obtain ⟨A_0, A_1, A_2⟩ := A.e3
             obtain ⟨B_0, B_1, B_2, B_3, B_4⟩ := B.e5
             go_wp2_with fail
             clear A_0 A_1 A_2 B_0 B_1 B_2 B_3 B_4
             go_ret
             exact ⟨by simp, hs4⟩
           · exact absurd (by omega) h4
       · by_cases h4 : wd * K ≤ e
         · have t5 := True.intro
           obtain ⟨A_0, A_1, A_2⟩ := A.e3
           obtain ⟨B_0, B_1, B_2, B_3, B_4⟩ := B.e5
           go_wp2_with fail
           clear A_0 A_1 A_2 B_0 B_1 B_2 B_3 B_4
           go_ret
           exact ⟨by simp [h3], hs4⟩
         · have t5 := True.intro
           obtain ⟨A_0, A_1, A_2⟩ := A.e3
           obtain ⟨B_0, B_1, B_2, B_3, B_4⟩ := B.e5
           go_wp2_with fail
           clear A_0 A_1 A_2 B_0 B_1 B_2 B_3 B_4
           go_ret
           exact ⟨by simp [h4], hs4⟩
theorem p0k (N : Nat) (w : World) (hN : N ≤ 1000000000) :
 Calls Tryz.prog 22 #[.int .i64 N] w (e0n w .i64 (dig B16 (2 ^ N))) := by
 have hs : N % 16 < 16 := Nat.mod_lt _ (by omega)
 have HD := hi0 (l0f (B := B16) (w := 16) (by decide) (by omega) N)
 go_enter Tryz.func22, Tryz.ntmps22
 go_wp2_with (refine h0s rfl _ _ _ rfl tyN .i64 .i64 (N / 16 + 1) _ _ rfl rfl ?_ ?_ ?_ ?_; omega; omega; omega; intro p1 c1 w1 ho1 hb1 hz1)
 go_loop [4, 5] (fun dv iv => ∃ (i t : Nat), iv = .int .i64 i ∧ dv = .int .i64 t ∧ i ≤ N % 16 ∧ t ≤ 65536 ∧ Hid (t = 2 ^ i)) (fun _ iv => N % 16 - (intOf iv).toNat)
 case atStart => exact ⟨0, 1, rfl, rfl, Nat.zero_le _, by omega, rfl⟩
 case round =>
  obtain ⟨i, t, rfl, rfl, hi, ht, HT⟩ := hrel
  by_cases h1 : i < N % 16
  · have HS : Hid (2 * t = 2 ^ (i + 1)) := by show 2 * t = 2 ^ (i + 1); rw [HT.out, Nat.pow_succ]; omega
    have hb : 2 * t ≤ 65536 := by
     rw [HS.out]; exact Nat.pow_le_pow_right (show 0 < 2 by omega) (show i + 1 ≤ 16 by omega)
    go_wp2
    go_round
    case rel => exact ⟨i + 1, 2 * t, by go_num, by go_num, by omega, hb, HS⟩
    case measure => simp [intOf]; omega
  · obtain rfl : i = N % 16 := by omega
    have hso := ho1.solid
    rw [List.length_replicate] at hso
    have hsm := hso
    go_wp2_with (refine a0y rfl _ _ _ rfl 3 tyN _ _ _ _ ho1 (N / 16) (by simp) _ ?_ rfl rfl ?_; omega; intro w3 ho3 hg3 hb3)
    go_ret
    rw [Int.toNat_natCast, HT.out, HD.out] at ho3
    refine ⟨p1, c1, ?_, ho3.rd, ho3.le_cap, j0a ho3, hb1.trans hb3⟩
    rw [← HD.out]; simp
theorem n0m (N : Nat) : (dig B16 (2 ^ N)).length = N / 16 + 1 := by
 rw [← l0f (B := B16) (w := 16) (by decide) (by omega) N]; simp
theorem j0e (p : OA) (n c : Nat) (a N : Nat) (w : World) (hp : Rd w .i64 p (dig B16 a)) (hn : n = (dig B16 a).length) (hl : (dig B16 a).length ≤ 100000000) (hN : N ≤ 1000000000) :
 Calls Tryz.prog 116 #[.slice p n c, .int .i64 N] w (e0n w .i64 (dig B16 (a * 2 ^ N))) := by
 subst hn
 by_cases h0 : (dig B16 a).length = 0
 · have : a = 0 := (a0f a0e a).1 h0
   subst this
   rw [Nat.zero_mul]
   rw [a0c] at *
   go_enter Tryz.func116, Tryz.ntmps116
   go_wp2
   go_ret
   exact ⟨none, 0, rfl, Rd.nil _ _ _, by simp, by simp, Below.refl _ _⟩
 · have hlp := Nat.le_of_eq (n0m N)
   have h1 : 1 ≤ (dig B16 a).length := by omega
   clear h0
   go_enter Tryz.func116, Tryz.ntmps116
   go_wp2_with fail
   refine (p0k N _ hN).mono ?_
   rintro e w1 ⟨p1, c1, rfl, ho1, -, -, hb1⟩
   go_wp2_with fail
   refine (g0n p p1 _ _ c c1 a (2 ^ N) _ (hp.past hb1) ho1 rfl rfl (by omega)).mono ?_
   rintro e w2 ⟨p2, c2, rfl, ho2, hc2, hn2, hb2⟩
   go_wp2_with fail
   go_ret
   exact ⟨p2, c2, rfl, ho2, hc2, fun h => Nat.le_trans hb1.size (hn2 h), hb1.trans (hb2.mono hb1.size)⟩
theorem h1a {O Y : List Nat} {N a : Nat} (h : g0v B16 (2 ^ (N % 16)) O Y Y.length) (hY : val B16 Y = a / B16 ^ (N / 16)) : val B16 O = a / 2 ^ N := by
 rw [h.done, hY, o0f (B := B16) (w := 16) (by decide)]
theorem y0w (p : OA) (n c : Nat) (a N : Nat) (w : World) (hp : Rd w .i64 p (dig B16 a)) (hn : n = (dig B16 a).length) (hl : (dig B16 a).length ≤ 1000000000) (hN : N ≤ 9223372036854775807) :
 Calls Tryz.prog 65 #[.slice p n c, .int .i64 N] w (e0n w .i64 (dig B16 (a / 2 ^ N))) := by
 subst hn
 by_cases h0 : (dig B16 a).length ≤ N / 16
 · rw [r0b (w := 16) (by decide) a0e a N h0]
   rw [a0c]
   go_enter Tryz.func65, Tryz.ntmps65
   go_wp2
   go_ret
   exact ⟨none, 0, rfl, Rd.nil _ _ _, by simp, by simp, Below.refl _ _⟩
 · have HXL := hi0 (b0d a0e a)
   have HV := hi0 (i0p (B := B16) g0a _ (b0d a0e a) (N / 16))
   rw [b0a a0e] at HV
   generalize dig B16 a = xs at *
   have hsx := hp.solid
   have hk : N / 16 < xs.length := by omega
   have HY := hi0 (show ∀ x ∈ xs.drop (N / 16), x < B16 from fun x h => HXL.out x (List.mem_of_mem_drop h))
   have hyl : (xs.drop (N / 16)).length = xs.length - N / 16 := List.length_drop
   have hylp : (xs.drop (N / 16)).length + N / 16 ≤ xs.length := by omega
   have hylq : xs.length ≤ (xs.drop (N / 16)).length + N / 16 := by omega
   have HG := hi0 (show ∀ j, dg (xs.drop (N / 16)) j = dg xs (N / 16 + j) from fun j => f0h)
   clear h0 hyl
   have hs : N % 16 < 16 := Nat.mod_lt _ (by omega)
   generalize xs.drop (N / 16) = ys at *
   have H0 := hi0 (g0v.start B16 (2 ^ (N % 16)) ys)
   have hpm : B16 % 2 ^ (N % 16) = 0 := n0h (w := 16) (by omega)
   have hpm := hi0 hpm
   go_enter Tryz.func65, Tryz.ntmps65
   go_wp2
   go_loop [5, 6] (fun dv iv => ∃ (i t : Nat), iv = .int .i64 i ∧ dv = .int .i64 t ∧ i ≤ N % 16 ∧ t ≤ 65536 ∧ Hid (t = 2 ^ i)) (fun _ iv => N % 16 - (intOf iv).toNat)
   case atStart => exact ⟨0, 1, rfl, rfl, Nat.zero_le _, by omega, rfl⟩
   case round =>
    obtain ⟨i, t, rfl, rfl, hi, ht, HT⟩ := hrel
    by_cases h1 : i < N % 16
    · have HS : Hid (2 * t = 2 ^ (i + 1)) := by show 2 * t = 2 ^ (i + 1); rw [HT.out, Nat.pow_succ]; omega
      have hb : 2 * t ≤ 65536 := by
       rw [HS.out]; exact Nat.pow_le_pow_right (show 0 < 2 by omega) (show i + 1 ≤ 16 by omega)
      go_wp2
      go_round
      case rel => exact ⟨i + 1, 2 * t, by go_num, by go_num, by omega, hb, HS⟩
      case measure => simp [intOf]; omega
    · obtain rfl : i = N % 16 := by omega
      have htp : 1 ≤ t := by rw [HT.out]; exact Nat.pow_pos (by omega)
      go_wp2
      rw [← HT.out] at H0 hpm
      go_loopg [7, 8] (ys.length) (fun g ov iv wr => ∃ (i : Nat) (q : OA) (e : Nat) (O : List Nat), iv = .int .i64 ((N / 16 + i : Nat) : Int) ∧ ov = .slice q O.length e ∧ g + i = ys.length ∧ i ≤ ys.length ∧ Hid (O.length = i) ∧
          Own wr w.heap.size .i64 3 q e O ∧ Below w.heap.size w wr ∧ Hid (g0v B16 t O ys i))
      case atStart => exact ⟨0, none, 0, [], by go_num, rfl, by omega, by omega, rfl, Own.nil _ _ _ _, Below.refl _ _, H0⟩
      case round =>
       obtain ⟨i, q, e, O, rfl, rfl, hg, hi, hO, hoq, hb, HR⟩ := hrel
       have hpL := hp.past hb
       have hyd := a0n (B := 65536) (by omega) ys HY.out i
       have hyd2 := a0n (B := 65536) (by omega) ys HY.out (i + 1)
       by_cases hlt : i < ys.length
       · have hc1 := hpL.cells (N / 16 + i) (by omega)
         rw [← HG.out] at hc1
         obtain ⟨v, hv⟩ : ∃ v, v = dg ys i / t := ⟨_, rfl⟩
         have ev : ((dg ys i : Nat) : Int) / (t : Int) = (v : Nat) := by rw [hv]; rfl
         have hvd : v < 65536 := by rw [hv]; exact Nat.lt_of_le_of_lt (Nat.div_le_self _ _) hyd
         by_cases h2 : i + 1 < ys.length
         · have hc2 := hpL.cells (N / 16 + (i + 1)) (by omega)
           rw [← HG.out] at hc2
           obtain ⟨m, hm⟩ : ∃ m, m = dg ys (i + 1) % t := ⟨_, rfl⟩
           obtain ⟨k, hk2⟩ : ∃ k, k = 65536 / t := ⟨_, rfl⟩
           obtain ⟨r, hr⟩ : ∃ r, r = m * k := ⟨_, rfl⟩
           obtain ⟨u, hu⟩ : ∃ u, u = v + r := ⟨_, rfl⟩
           have hue : u = dg ys i / t + dg ys (i + 1) % t * (B16 / t) := by rw [hu, hr, hm, hk2, hv]; rfl
           have hub : u < 65536 := by rw [hue]; exact z0y htp hpm.out hyd
           have HS := hi0 (HR.out.step htp hpm.out HY.out hlt u hue)
           have hkb : k ≤ 65536 := by rw [hk2]; exact Nat.div_le_self _ _
           have i0 : (0 : Int) ≤ (N : Int) / 16 + i + 1 := by omega
           have i1 : (N : Int) / 16 + i + 1 < (xs.length : Int) := by omega
           have e1 : IntKind.i64.wrap ((N : Int) / 16 + i + 1) = (N : Int) / 16 + i + 1 := iwo
           have e2 : ((dg ys (i + 1) : Nat) : Int).tmod (t : Int) = (m : Nat) := by rw [Int.tmod_eq_emod_of_nonneg (by omega), hm]; rfl
           have e3 : IntKind.i64.wrap ((65536 : Int) / (t : Int)) = (k : Nat) := by rw [hk2]; exact IntWalk.i64_in _ (by have : ((65536 / t : Nat) : Int) = 65536 / (t : Int) := rfl; omega)
           have e4 : IntKind.i64.wrap ((m : Int) * (k : Int)) = (r : Nat) := by
            have : (m : Int) * (k : Int) = (r : Nat) := by rw [hr]; simp
            rw [this]; exact iwo
           have e5 : IntKind.i64.wrap ((v : Int) + (r : Int)) = (u : Nat) := by rw [hu]; exact iwo
           have e6 : ((N : Int) / 16 + i + 1).toNat = N / 16 + (i + 1) := by omega
           have e7 : ¬ t = 0 := by omega
           have e8 : (65536 : Int).tdiv (t : Int) = (65536 : Int) / (t : Int) := Int.tdiv_eq_ediv_of_nonneg (by omega)
           clear hu hr hm hk2 hv hue
           go_wp2_with fail
           go_quiet (fail)
           have hoq := hoq.drewN nq
           have hb := hb.trans (below_drewN (Below.refl _ wr) nq)
           clear e1 e2 e3 e4 e5 e6 e7 e8 i0 i1 hc1 hc2 hpL
           go_wp2_with (first
             | (refine a0r rfl _ _ rfl tyN _ ?_ rfl ?_; omega; intro p2 w2 ho2 hb2 hz2 hp2)
             | (at_builtin; refine a0z rfl _ _ _ rfl tyN _ _ _ _ _ (hoq.past hb2) rfl _ _ _ _ ho2.rd rfl rfl rfl ?_ ?_ ?_; (have := hO.out; simp; omega); (have := hb2.size; have := hb.size; omega); intro p3 c3 w3 ho3 hg3 hb3 hn3))
           have hb4 := hb.trans ((hb2.mono hb.size).trans hb3)
           rw [Int.toNat_natCast] at ho3
           go_roundg (ys.length - 1 - i)
           case measure => omega
           case rel => exact ⟨i + 1, p3, c3, _, by go_num, by simp, by omega, by omega, (by show (O ++ _).length = _; have := hO.out; rw [List.length_append, List.length_singleton]; omega), ho3, hb4, HS⟩
         · have HS := hi0 (HR.out.step htp hpm.out HY.out hlt v (by rw [hv, b0n (show ys.length ≤ i + 1 by omega), Nat.zero_mod, Nat.zero_mul]; rfl))
           clear hv
           go_wp2_with (first
             | (refine a0r rfl _ _ rfl tyN _ ?_ rfl ?_; omega; intro p2 w2 ho2 hb2 hz2 hp2)
             | (at_builtin; refine a0z rfl _ _ _ rfl tyN _ _ _ _ _ (hoq.past hb2) rfl _ _ _ _ ho2.rd rfl rfl rfl ?_ ?_ ?_; (have := hO.out; simp; omega); (have := hb2.size; have := hb.size; omega); intro p3 c3 w3 ho3 hg3 hb3 hn3))
           have hb4 := hb.trans ((hb2.mono hb.size).trans hb3)
           rw [Int.toNat_natCast] at ho3
           go_roundg (ys.length - 1 - i)
           case measure => omega
           case rel => exact ⟨i + 1, p3, c3, _, by go_num, by simp, by omega, by omega, (by show (O ++ _).length = _; have := hO.out; rw [List.length_append, List.length_singleton]; omega), ho3, hb4, HS⟩
       · obtain rfl : i = ys.length := by omega
         have HD := hi0 (h1a (by rw [← HT.out]; exact HR.out) HV.out)
         have HX := hi0 HR.out.1
         go_wp2_with (go_at_call 115; refine (d0z _ _ _ O _ hoq.rd rfl hoq.le_cap HX.out (by rw [hO.out]; omega)).mono ?_; rintro e w3 ⟨rfl, rfl⟩)
         go_ret
         have ht := b0c a0e O HX.out
         have ho2 := hoq.take (dig B16 (val B16 O)).length
         rw [ht, HD.out] at ho2
         rw [HD.out]
         exact ⟨q, _, rfl, ho2.rd, Nat.le_refl _, j0a ho2, hb⟩
theorem u0b (g : Bool) (p : OA) (c : Nat) (e : Int) (w : World) :
 Calls Tryz.prog 24 #[.agg #[.bool g, .slice p 0 c, .int .i64 e]] w (p0f w (fun _ => False) ⟨false, 0, 0⟩) := by
 go_enter Tryz.func24, Tryz.ntmps24
 go_wp2
 refine bodyPost_ret (v := .agg #[.bool false, .slice none 0 0, .int .i64 0]) (by simp [results, Tryz.results24, go_sem]) rfl ?_
 exact ⟨none, 0, by rw [a0c]; rfl, by rw [a0c]; exact Rd.nil _ _ _, by rw [a0c]; simp, by rw [a0c]; simp, ((Below.refl _ _).alloc (Nat.le_refl _) _).alloc (by simp) _⟩
theorem w0i (g : Bool) (p : OA) (n c : Nat) (e : Int) (m : Nat) (w : World) (hp : Rd w .i64 p (dig B16 m)) (hn : n = (dig B16 m).length) (hl : (dig B16 m).length ≤ 10000000) (h0 : 0 < m)
 (he : -1000000000 ≤ e ∧ e ≤ 1000000000) :
 Calls Tryz.prog 24 #[.agg #[.bool g, .slice p n c, .int .i64 e]] w (p0f w (fun _ => False) (bare ⟨g, m, e⟩)) := by
 subst hn
 have hl0 : 0 < (dig B16 m).length := by
  have := a0f a0e m
  omega
 have t1 : (((dig B16 m).length : Int) == 0) = false := bFn (by omega)
 obtain ⟨W1, hW1, hs1, A1, R1, hz1⟩ := u1i w (.bool g) (.slice p (dig B16 m).length c) (.int .i64 e) (.bool false) (.slice none 0 0) (.int .i64 0) 28 28
 have hp1 := hp.past hs1
 have HB := hi0 (n0y (g := g) (e := e) h0)
 have htz : tz m ≤ 1000000000 := by have := f0u h0; have := h0m m; omega
 have HV := hi0 (b0a a0e m)
 have HX := hi0 (b0d a0e m)
 have HW1 := hi0 hW1
 obtain ⟨xs, hxs⟩ : ∃ xs, xs = dig B16 m := ⟨_, rfl⟩
 have HXS := hi0 hxs
 rw [← hxs] at hp hl hl0 t1 A1 hp1 HV HX HW1 ⊢
 have hsx := hp1.solid
 have a1 := A1.c1
 clear hW1 hxs
 go_enter Tryz.func24, Tryz.ntmps24
 go_wp2_with fail
 rw [← HW1.out]
 clear HW1
 go_wp2
 go_loopg [3] xs.length (fun gk nv wr => ∃ (j n : Nat), nv = .int .i64 n ∧ gk + j = xs.length ∧ wr = W1 ∧ Hid (h0a xs j n))
 case atStart => exact ⟨0, 0, rfl, rfl, rfl, h0a.start xs⟩
 case round =>
  obtain ⟨j, n, rfl, hgk, rfl, HO⟩ := hrel
  have hlt := HO.out.lt HV.out h0
  have hd := a0n (B := 65536) (by omega) xs HX.out j
  have hn1 : (n : Int) ≤ 160000000 := by have := HO.out.1; omega
  have e1 : (n : Int) / 16 = (j : Int) := by have := HO.out.1; omega
  have hcell := hp1.cells j hlt
  by_cases hz : dg xs j = 0
  · have HS := hi0 (HO.out.step hz)
    rw [hz] at hcell
    have hgi : 0 < gk := by omega
    clear hz
    go_wp2
    go_roundg (gk - 1)
    case measure => omega
    case rel => exact ⟨j + 1, n + 16, by go_num, by omega, rfl, HS⟩
  · have h0d : 0 < dg xs j := by omega
    have HI := hi0 (m0c.start HO.out HV.out h0d hd)
    have t2 : (((dg xs j : Nat) : Int) == 0) = false := bFn (by omega)
    clear hz
    go_wp2
    have hjn : n ≤ 160000000 := by omega
    clear e1 hcell t2 hn1
    obtain ⟨d0, hd0⟩ : ∃ d0, dg xs j = d0 := ⟨_, rfl⟩
    rw [hd0] at HI hd h0d ⊢
    clear hd0
    go_loopg [3, 4] d0 (fun gk nv dv wx => ∃ (n2 : Nat), nv = .int .i64 n2 ∧ dv = .int .i64 gk ∧ gk < 65536 ∧ wx = wr ∧ Hid (m0c m gk n2))
    case atStart => exact ⟨n, rfl, rfl, hd, rfl, HI⟩
    case round =>
     obtain ⟨n2, rfl, rfl, hgl, rfl, HN⟩ := hrel
     have hn2 : n2 ≤ 1000000000 := by obtain ⟨t, h1, h2, h3⟩ := HN.out; omega
     have hg0 : 0 < gk := by obtain ⟨t, h1, h2, h3⟩ := HN.out; omega
     by_cases hev : gk % 2 = 0
     · have HS := hi0 (HN.out.step hev)
       have t3 : (gk : Int) % 2 = 0 := by omega
       clear hev
       go_wp2
       go_roundg (gk / 2)
       case measure => omega
       case rel => exact ⟨n2 + 1, by go_num, by go_num, by omega, rfl, HS⟩
     · have HD := HN.out.done (by omega)
       have t3 : (gk : Int) % 2 = 1 := by omega
       subst HD
       obtain ⟨t, ht⟩ : ∃ t, tz m = t := ⟨_, rfl⟩
       have HT := hi0 ht
       rw [ht] at htz HB hn2 HN ⊢
       clear ht hev
       go_wp2_with fail
       clear t3
       have e1 : IntKind.i64.wrap (e + (t : Int)) = e + (t : Int) := iwo
       have hpm : Rd wr .i64 p (dig B16 m) := by rw [← HXS.out]; exact hp1
       go_region_held3 (fun w' => w'.cell? ⟨w.heap.size, 0, none⟩ = some (.bool g) ∧ w'.cell? ⟨w.heap.size, 1, none⟩ = some (.slice p xs.length c) ∧ w'.cell? ⟨w.heap.size, 2, none⟩ = some (.int .i64 e))
        (first | exact ⟨A1.c0, A1.c1, A1.c2⟩
               | (have D1 := A1.drew; exact ⟨D1.c0, D1.c1, D1.c2⟩)
               | (have D1 := A1.drew.past hb2; exact ⟨D1.c0, D1.c1, D1.c2⟩)
               | (have D1 := A1.drew.past hb2; exact ⟨(((D1.set (by omega)).set (by omega)).set (by omega)).c0, (((D1.set (by omega)).set (by omega)).set (by omega)).c1, (((D1.set (by omega)).set (by omega)).set (by omega)).c2⟩))
        (first | (go_at_call 65; refine (y0w p _ c m t _ hpm.drew (by rw [HXS.out]) (by rw [← HXS.out]; clear e1; omega) (by clear e1; omega)).mono ?_; rintro e2 w2 ⟨p2, c2, rfl, hr2, hc2, hf2, hb2⟩; obtain ⟨d0, d1, d2, f0, f1, f2, dlt⟩ := R1.drew.past hb2))
       all_goals (go_wp2_with fail)
       refine bodyPost_ret (v := .agg #[.bool g, .slice p2 (dig B16 (m / 2 ^ t)).length c2, .int .i64 (e + (t : Int))]) (by simp [results, Tryz.results24, go_sem, d0, d1, d2]) rfl ?_
       rw [HB.out]
       clear e1
       have hzd : wr.drew.heap.size = wr.heap.size := rfl
       exact g0l (d := ⟨g, m / 2 ^ t, e + t⟩) (hs1.drew.trans (hb2.mono hs1.size)) hr2 hc2 (fun h => .inr (by have := hf2 h; simp only at *; omega)) (by omega) (fun h => by have := hf2 h; simp only at *; omega)
theorem g0o (g : Bool) (p : OA) (n c : Nat) (e : Int) (m : Nat) (w : World) (hp : Rd w .i64 p (dig B16 m)) (hn : n = (dig B16 m).length) (hl : (dig B16 m).length ≤ 10000000)
 (he : -1000000000 ≤ e ∧ e ≤ 1000000000) :
 Calls Tryz.prog 24 #[.agg #[.bool g, .slice p n c, .int .i64 e]] w (p0f w (fun _ => False) (bare ⟨g, m, e⟩)) := by
 by_cases h0 : m = 0
 · subst h0
   rw [a0c] at hn
   subst hn
   exact u0b g p c e w
 · exact w0i g p n c e m w hp hn hl (by omega) he
theorem i0g (p q : OA) (n m c d : Nat) (a b : Nat) (w : World) (hp : Rd w .i64 p (dig B16 a)) (hq : Rd w .i64 q (dig B16 b)) (hn : n = (dig B16 a).length) (hm : m = (dig B16 b).length)
 (hl : (dig B16 a).length ≤ 1000000000) (hab : b ≤ a) :
 Calls Tryz.prog 123 #[.slice p n c, .slice q m d] w (e0n w .i64 (dig B16 (a - b))) := by
 subst hn hm
 have hge := a0j a0e hab
 have HXL := hi0 (b0d a0e a)
 have HYL := hi0 (b0d a0e b)
 have HA := hi0 (b0a a0e a)
 have HB := hi0 (b0a a0e b)
 generalize dig B16 a = xs at *
 generalize dig B16 b = ys at *
 have hsx := hp.solid
 have hsy := hq.solid
 go_enter Tryz.func123, Tryz.ntmps123
 go_wp2
 go_loopg [5, 6, 7] (xs.length) (fun g ov cv iv wr => ∃ (i cr : Nat) (t : OA) (e : Nat) (O : List Nat), iv = .int .i64 i ∧ cv = .int .i64 cr ∧ ov = .slice t O.length e ∧ g + i = xs.length ∧ cr ≤ 1 ∧ i ≤ xs.length ∧ Hid (O.length = i) ∧
     Own wr w.heap.size .i64 3 t e O ∧ Below w.heap.size w wr ∧ Hid (h0w O xs ys i cr))
 case atStart => exact ⟨0, 0, none, 0, [], rfl, rfl, rfl, by omega, by omega, by omega, rfl, Own.nil _ _ _ _, Below.refl _ _, h0w.start xs ys⟩
 case round =>
  obtain ⟨i, cr, t, e, O, rfl, rfl, rfl, hg, hcr, hi, hO, hoq, hb, HR⟩ := hrel
  have hpL := hp.past hb
  have hqL := hq.past hb
  have hxd := a0n (B := 65536) (by omega) xs HXL.out i
  have hyd := a0n (B := 65536) (by omega) ys HYL.out i
  by_cases h1 : i < xs.length
  · have hc1 := hpL.cells i h1
    by_cases h2 : i < ys.length
    · have hc2 := hqL.cells i h2
      by_cases h3 : dg xs i < dg ys i + cr
      · have HS := hi0 (HR.out.step (dg xs i + 65536 - dg ys i - cr) 1 (by unfold B16; omega) (by omega) (by unfold B16; omega))
        go_wp2_with (first
          | (refine a0r rfl _ _ rfl tyN _ ?_ rfl ?_; omega; intro p2 w2 ho2 hb2 hz2 hp2)
          | (at_builtin; refine a0z rfl _ _ _ rfl tyN _ _ _ _ _ (hoq.past hb2) rfl _ _ _ _ ho2.rd rfl rfl rfl ?_ ?_ ?_; (have := hO.out; simp; omega); (have := hb2.size; have := hb.size; omega); intro p3 c3 w3 ho3 hg3 hb3 hn3))
        have hb4 := hb.trans ((hb2.mono hb.size).trans hb3)
        have e4 : ((dg xs i : Int) - cr - dg ys i + 65536).toNat = dg xs i + 65536 - dg ys i - cr := by omega
        rw [e4] at ho3
        go_roundg (xs.length - 1 - i)
        case measure => omega
        case rel => exact ⟨i + 1, 1, p3, c3, _, by go_num, rfl, by simp, by omega, by omega, by omega, (by show (O ++ _).length = i + 1; have := hO.out; simp; omega), ho3, hb4, HS⟩
      · have HS := hi0 (HR.out.step (dg xs i - dg ys i - cr) 0 (by unfold B16; omega) (by omega) (by unfold B16; omega))
        go_wp2_with (first
          | (refine a0r rfl _ _ rfl tyN _ ?_ rfl ?_; omega; intro p2 w2 ho2 hb2 hz2 hp2)
          | (at_builtin; refine a0z rfl _ _ _ rfl tyN _ _ _ _ _ (hoq.past hb2) rfl _ _ _ _ ho2.rd rfl rfl rfl ?_ ?_ ?_; (have := hO.out; simp; omega); (have := hb2.size; have := hb.size; omega); intro p3 c3 w3 ho3 hg3 hb3 hn3))
        have hb4 := hb.trans ((hb2.mono hb.size).trans hb3)
        have e4 : ((dg xs i : Int) - cr - dg ys i).toNat = dg xs i - dg ys i - cr := by omega
        rw [e4] at ho3
        go_roundg (xs.length - 1 - i)
        case measure => omega
        case rel => exact ⟨i + 1, 0, p3, c3, _, by go_num, rfl, by simp, by omega, by omega, by omega, (by show (O ++ _).length = i + 1; have := hO.out; simp; omega), ho3, hb4, HS⟩
    · have ez : dg ys i = 0 := b0n (by omega)
      by_cases h3 : dg xs i < cr
      · have HS := hi0 (HR.out.step (dg xs i + 65536 - cr) 1 (by unfold B16; omega) (by omega) (by unfold B16; omega))
        clear ez hyd
        go_wp2_with (first
          | (refine a0r rfl _ _ rfl tyN _ ?_ rfl ?_; omega; intro p2 w2 ho2 hb2 hz2 hp2)
          | (at_builtin; refine a0z rfl _ _ _ rfl tyN _ _ _ _ _ (hoq.past hb2) rfl _ _ _ _ ho2.rd rfl rfl rfl ?_ ?_ ?_; (have := hO.out; simp; omega); (have := hb2.size; have := hb.size; omega); intro p3 c3 w3 ho3 hg3 hb3 hn3))
        have hb4 := hb.trans ((hb2.mono hb.size).trans hb3)
        have e4 : ((dg xs i : Int) - cr + 65536).toNat = dg xs i + 65536 - cr := by omega
        rw [e4] at ho3
        go_roundg (xs.length - 1 - i)
        case measure => omega
        case rel => exact ⟨i + 1, 1, p3, c3, _, by go_num, rfl, by simp, by omega, by omega, by omega, (by show (O ++ _).length = i + 1; have := hO.out; simp; omega), ho3, hb4, HS⟩
      · have HS := hi0 (HR.out.step (dg xs i - cr) 0 (by unfold B16; omega) (by omega) (by unfold B16; omega))
        clear ez hyd
        go_wp2_with (first
          | (refine a0r rfl _ _ rfl tyN _ ?_ rfl ?_; omega; intro p2 w2 ho2 hb2 hz2 hp2)
          | (at_builtin; refine a0z rfl _ _ _ rfl tyN _ _ _ _ _ (hoq.past hb2) rfl _ _ _ _ ho2.rd rfl rfl rfl ?_ ?_ ?_; (have := hO.out; simp; omega); (have := hb2.size; have := hb.size; omega); intro p3 c3 w3 ho3 hg3 hb3 hn3))
        have hb4 := hb.trans ((hb2.mono hb.size).trans hb3)
        have e4 : ((dg xs i : Int) - cr).toNat = dg xs i - cr := by omega
        rw [e4] at ho3
        go_roundg (xs.length - 1 - i)
        case measure => omega
        case rel => exact ⟨i + 1, 0, p3, c3, _, by go_num, rfl, by simp, by omega, by omega, by omega, (by show (O ++ _).length = i + 1; have := hO.out; simp; omega), ho3, hb4, HS⟩
  · obtain rfl : i = xs.length := by omega
    have HD := hi0 (HR.out.done HA.out HB.out hge hab)
    go_wp2_with (go_at_call 115; refine (d0z _ _ _ O _ hoq.rd rfl hoq.le_cap HR.out.1 (by rw [hO.out]; omega)).mono ?_; rintro e w3 ⟨rfl, rfl⟩)
    go_ret
    have ht := b0c a0e O HR.out.1
    have ho2 := hoq.take (dig B16 (val B16 O)).length
    rw [ht, HD.out] at ho2
    rw [HD.out]
    exact ⟨t, _, rfl, ho2.rd, Nat.le_refl _, j0a ho2, hb⟩
theorem w0j (a N : Nat) : (dig B16 (a * 2 ^ N)).length ≤ (dig B16 a).length + (N / 16 + 1) := by
 refine Nat.le_trans (a0x a0e _ _) ?_
 have : (dig B16 (2 ^ N)).length = N / 16 + 1 := by rw [← l0f (B := B16) (w := 16) (by decide) (by omega) N]; simp
 omega
def h1b (a : Nat) (e f : Int) : Int := if a = 0 then f else min e f
theorem l1c (g h : Bool) (a b : Nat) (e f : Int) : h0x ⟨g, a, e⟩ ⟨h, b, f⟩ = if b = 0 then e else h1b a e f := rfl
theorem p0l (a : Nat) : (((dig B16 a).length : Int) == 0) = decide (a = 0) := by
 have := a0f a0e a
 by_cases h : a = 0
 · subst h; rw [a0c]; rfl
 · rw [decide_eq_false h]; exact bFn (by omega)
theorem w0k (g h : Bool) (p q : OA) (n c m d : Nat) (e f : Int) (a b : Nat) (w : World) (hp : Rd w .i64 p (dig B16 a)) (hq : Rd w .i64 q (dig B16 b)) (hn : n = (dig B16 a).length) (hm : m = (dig B16 b).length)
 (hl : (dig B16 a).length ≤ 1000000) (hl2 : (dig B16 b).length ≤ 1000000) (he : -1000000 ≤ e ∧ e ≤ 1000000) (hf : -1000000 ≤ f ∧ f ≤ 1000000) :
 Calls Tryz.prog 74 #[.agg #[.bool g, .slice p n c, .int .i64 e], .agg #[.bool h, .slice q m d, .int .i64 f]] w (p0f w (fun _ => False) (v0f ⟨g, a, e⟩ ⟨h, b, f⟩)) := by
 subst hn hm
 obtain ⟨W1, hW1, hs1, A1, B1, R1, hz1⟩ := u1j w (.bool g) (.slice p (dig B16 a).length c) (.int .i64 e) (.bool h) (.slice q (dig B16 b).length d) (.int .i64 f) (.bool false) (.slice none 0 0) (.int .i64 0) 28 28 28
 have hp1 := hp.past hs1
 have hq1 := hq.past hs1
 have a1 := A1.c1
 have a2 := A1.c2
 have b1 := B1.c1
 have b2 := B1.c2
 have HW1 := hi0 hW1
 clear hW1
 have za := p0l a
 have zb := p0l b
 go_enter Tryz.func74, Tryz.ntmps74
 go_upto_if 16 with (fail)
 rw [← HW1.out]
 clear HW1
 go_cut [5] (fun s5 wx => s5 = .int .i64 (h1b a e f) ∧ wx = W1)
 case first =>
  go_wp2_with fail
  all_goals go_meet
  all_goals (refine ⟨?_, rfl⟩; unfold h1b; simp [*])
 case rest =>
  obtain ⟨rfl, rfl⟩ := hcut
  go_upto_if 22 with (fail)
  go_cut [5] (fun s5 wx => s5 = .int .i64 (h0x ⟨g, a, e⟩ ⟨h, b, f⟩) ∧ wx = wc)
  case first =>
   go_wp2_with fail
   all_goals go_meet
   all_goals (refine ⟨?_, rfl⟩; rw [l1c]; simp [*])
  case rest =>
   obtain ⟨rfl, rfl⟩ := hcut
   clear za zb
   go_wp2_with fail
   clear a1 a2 b1 b2
   obtain ⟨w1, hw1⟩ : ∃ w1, w1 = wc := ⟨_, rfl⟩
   subst hw1
   have HJ := hi0 (show v0f ⟨g, a, e⟩ ⟨h, b, f⟩ = bare (q0h g h (a * 2 ^ (e - h0x ⟨g, a, e⟩ ⟨h, b, f⟩).toNat) (b * 2 ^ (f - h0x ⟨g, a, e⟩ ⟨h, b, f⟩).toNat) (h0x ⟨g, a, e⟩ ⟨h, b, f⟩)) from rfl)
   have hk1 : -1000000 ≤ h0x ⟨g, a, e⟩ ⟨h, b, f⟩ ∧ h0x ⟨g, a, e⟩ ⟨h, b, f⟩ ≤ 1000000 := by unfold h0x; simp only; split; omega; split; omega; omega
   generalize h0x ⟨g, a, e⟩ ⟨h, b, f⟩ = k at *
   obtain ⟨N1, hN1⟩ : ∃ N1, N1 = (e - k).toNat := ⟨_, rfl⟩
   obtain ⟨N2, hN2⟩ : ∃ N2, N2 = (f - k).toNat := ⟨_, rfl⟩
   rw [← hN1, ← hN2] at HJ
   have n1 : N1 ≤ 2000000 := by omega
   have n2 : N2 ≤ 2000000 := by omega
   have e1 : IntKind.i64.wrap (e - k) = e - k := iwo
   have e2 : IntKind.i64.wrap (f - k) = f - k := iwo
   have m1 : max 0 (e - k) = (N1 : Int) := by omega
   have m2 : max 0 (f - k) = (N2 : Int) := by omega
   clear hN1 hN2
   go_cut [6, 7] (fun s6 s7 wx => ∃ (px : OA) (cx : Nat) (py : OA) (cy : Nat), s6 = .slice px (dig B16 (a * 2 ^ N1)).length cx ∧ s7 = .slice py (dig B16 (b * 2 ^ N2)).length cy ∧
     Rd wx .i64 px (dig B16 (a * 2 ^ N1)) ∧ Rd wx .i64 py (dig B16 (b * 2 ^ N2)) ∧ Below w1.heap.size w1 wx)
   case first =>
    go_region_held3 (fun w' => (w'.cell? ⟨w.heap.size, 1, none⟩ = some (.slice p (dig B16 a).length c) ∧ w'.cell? ⟨w.heap.size, 2, none⟩ = some (.int .i64 e)) ∧
        (w'.cell? ⟨w.heap.size + 1, 1, none⟩ = some (.slice q (dig B16 b).length d) ∧ w'.cell? ⟨w.heap.size + 1, 2, none⟩ = some (.int .i64 f)))
     (first | exact ⟨⟨A1.c1, A1.c2⟩, B1.c1, B1.c2⟩
            | (have D1 := A1.drew; have D2 := B1.drew; exact ⟨⟨D1.c1, D1.c2⟩, D2.c1, D2.c2⟩)
            | (have D1 := (A1.drew.past hbx).past hby; have D2 := (B1.drew.past hbx).past hby; exact ⟨⟨D1.c1, D1.c2⟩, D2.c1, D2.c2⟩)
            | (have D1 := (A1.drew.past hby).past hbx; have D2 := (B1.drew.past hby).past hbx; exact ⟨⟨D1.c1, D1.c2⟩, D2.c1, D2.c2⟩)
            | (have D1 := A1.drew.past hbx; have D2 := B1.drew.past hbx; exact ⟨⟨D1.c1, D1.c2⟩, D2.c1, D2.c2⟩)
            | (have D1 := A1.drew.past hby; have D2 := B1.drew.past hby; exact ⟨⟨D1.c1, D1.c2⟩, D2.c1, D2.c2⟩))
     (first
       | (go_at_call_of 116 (Value.slice p (dig B16 a).length c); refine (j0e p _ c a N1 _ ?_ rfl (by clear e1 e2 m1 m2; omega) (by clear e1 e2 m1 m2; omega)).mono ?_; (first | exact hp1.drew | exact hp1.drew.past hby); rintro ex wx ⟨px, cx, rfl, hrx, hcx, hfx, hbx⟩)
       | (go_at_call_of 116 (Value.slice q (dig B16 b).length d); refine (j0e q _ d b N2 _ ?_ rfl (by clear e1 e2 m1 m2; omega) (by clear e1 e2 m1 m2; omega)).mono ?_; (first | exact hq1.drew | exact hq1.drew.past hbx); rintro ey wy ⟨py, cy, rfl, hry, hcy, hfy, hby⟩))
    all_goals (clear e1 e2 m1 m2)
    all_goals (go_wp2_with fail)
    all_goals go_meet
    all_goals (first
      | exact ⟨px, cx, py, cy, rfl, rfl, hrx.past hby, hry, ((Below.refl _ _).drew.trans hbx).trans (hby.mono hbx.size)⟩
      | exact ⟨px, cx, py, cy, rfl, rfl, hrx, hry.past hbx, ((Below.refl _ _).drew.trans hby).trans (hbx.mono hby.size)⟩)
   case rest =>
    obtain ⟨px, cx, py, cy, rfl, rfl, hrx, hry, hb4⟩ := hcut
    clear e1 e2 m1 m2
    have lX : (dig B16 (a * 2 ^ N1)).length ≤ 2000000 := by have := w0j a N1; omega
    have lY : (dig B16 (b * 2 ^ N2)).length ≤ 2000000 := by have := w0j b N2; omega
    generalize a * 2 ^ N1 = x at *
    generalize b * 2 ^ N2 = y at *
    have hs4 := hs1.trans (hb4.mono hs1.size)
    have A4 := A1.past hb4
    have B4 := B1.past hb4
    have R4 := R1.past hb4
    have a0 := A4.c0
    have b0 := B4.c0
    have hzc := hb4.size
    clear a0 b0
    have hxy0 : 0 ≤ k + 1000000 := by omega
    by_cases hgh : g = h
    · subst hgh
      have HK := hi0 (HJ.out.trans (congrArg bare (show q0h g g x y k = ⟨g, x + y, k⟩ by unfold q0h; rw [if_pos rfl])))
      have hgg : (g == g) = true := by simp
      have lm : (dig B16 (x + y)).length ≤ 5000000 := by have := d0w a0e x y; omega
      have a0 := A4.c0
      have b0 := B4.c0
      go_wp2_with fail
      clear a0 b0
      obtain ⟨m, hm⟩ : ∃ m, x + y = m := ⟨_, rfl⟩
      have HM := hi0 hm
      rw [hm] at HK lm
      clear hm
      go_region_held3 (fun w' => w'.cell? ⟨w.heap.size, 0, none⟩ = some (.bool g))
       (first | exact A4.c0 | exact A4.drew.c0 | exact (A4.drew.past hb6).c0 | exact ((A4.drew.past hb6).past hb7).c0 | exact (((((A4.drew.past hb6).past hb7).set (by omega)).set (by omega)).set (by omega)).c0)
       (first | (go_at_call 26; refine (k0x px py _ _ cx cy x y _ hrx.drew hry.drew rfl rfl (by omega)).mono ?_; rw [HM.out]; rintro e6 w6 ⟨p6, c6, rfl, hr6, hc6, hf6, hb6⟩)
              | (go_at_call 24; refine (g0o g p6 _ c6 k m _ hr6 rfl (by omega) (by omega)).mono ?_; generalize bare ⟨g, m, k⟩ = rr at *; rintro e7 w7 ⟨p7, c7, rfl, hr7, hc7, hf7, hb7⟩; obtain ⟨d0, d1, d2, f0, f1, f2, dlt⟩ := (R4.drew.past hb6).past hb7))
      all_goals (go_wp2_with fail)
      refine bodyPost_ret (v := .agg #[.bool rr.neg, .slice p7 (dig B16 rr.m).length c7, .int .i64 rr.e]) (by simp [results, Tryz.results74, go_sem, d0, d1, d2]) rfl ?_
      rw [HK.out]
      have hzd : wc.drew.heap.size = wc.heap.size := rfl
      have hs6 := hs4.drew.trans (hb6.mono hs4.size)
      have hz6 := hb6.size
      have hzR := R4.lt
      have hzS := hs4.size
      have hf : 0 < (dig B16 rr.m).length → w6.heap.size ≤ blk p7 := fun h => by rcases hf7 h with h | h; exact h.elim; exact h
      exact g0l (hs6.trans (hb7.mono hs6.size)) hr7 hc7 (fun h => .inr (by have := hf h; omega)) (by omega) (fun h => by have := hf h; omega)
    · by_cases hxy : y ≤ x
      · have HK := hi0 (HJ.out.trans (congrArg bare (show q0h g h x y k = ⟨g, x - y, k⟩ by unfold q0h; rw [if_neg hgh, if_pos hxy])))
        have hgg : (g == h) = false := by simpa using hgh
        have hC : 0 ≤ cmpN x y := by unfold cmpN; rw [if_neg (by omega)]; split <;> omega
        have HXY := hi0 hxy
        have lm : (dig B16 (x - y)).length ≤ 5000000 := by have := a0j a0e (Nat.sub_le x y); omega
        clear hxy hgh
        have a0 := A4.c0
        have b0 := B4.c0
        go_wp2_with fail
        ((with_reducible refine (d0o px py _ _ cx cy x y _ hrx hry rfl rfl (by omega) (by omega)).mono ?_))
        rintro e9 w9 ⟨rfl, hb9⟩
        clear a0 b0
        have hs9 := hs4.trans (hb9.mono hs4.size)
        have hz9 := hb9.size
        replace A4 := A4.past hb9
        replace B4 := B4.past hb9
        replace R4 := R4.past hb9
        replace hrx := hrx.past hb9
        replace hry := hry.past hb9
        go_wp2_with fail
        obtain ⟨m, hm⟩ : ∃ m, x - y = m := ⟨_, rfl⟩
        have HM := hi0 hm
        rw [hm] at HK lm
        clear hm
        go_region_held3 (fun w' => w'.cell? ⟨w.heap.size, 0, none⟩ = some (.bool g))
         (first | exact A4.c0 | exact A4.drew.c0 | exact (A4.drew.past hb6).c0 | exact ((A4.drew.past hb6).past hb7).c0 | exact (((((A4.drew.past hb6).past hb7).set (by omega)).set (by omega)).set (by omega)).c0)
         (first | (go_at_call 123; refine (i0g px py _ _ cx cy x y _ hrx.drew hry.drew rfl rfl (by omega) HXY.out).mono ?_; rw [HM.out]; rintro e6 w6 ⟨p6, c6, rfl, hr6, hc6, hf6, hb6⟩)
                | (go_at_call 24; refine (g0o g p6 _ c6 k m _ hr6 rfl (by omega) (by omega)).mono ?_; generalize bare ⟨g, m, k⟩ = rr at *; rintro e7 w7 ⟨p7, c7, rfl, hr7, hc7, hf7, hb7⟩; obtain ⟨d0, d1, d2, f0, f1, f2, dlt⟩ := (R4.drew.past hb6).past hb7))
        all_goals (go_wp2_with fail)
        refine bodyPost_ret (v := .agg #[.bool rr.neg, .slice p7 (dig B16 rr.m).length c7, .int .i64 rr.e]) (by simp [results, Tryz.results74, go_sem, d0, d1, d2]) rfl ?_
        rw [HK.out]
        have hzd : w9.drew.heap.size = w9.heap.size := rfl
        have hs6 := hs9.drew.trans (hb6.mono hs9.size)
        have hz6 := hb6.size
        have hzR := R4.lt
        have hzS := hs9.size
        have hf : 0 < (dig B16 rr.m).length → w6.heap.size ≤ blk p7 := fun h => by rcases hf7 h with h | h; exact h.elim; exact h
        exact g0l (hs6.trans (hb7.mono hs6.size)) hr7 hc7 (fun h => .inr (by have := hf h; omega)) (by omega) (fun h => by have := hf h; omega)
      · have HK := hi0 (HJ.out.trans (congrArg bare (show q0h g h x y k = ⟨h, y - x, k⟩ by unfold q0h; rw [if_neg hgh, if_neg hxy])))
        have hgg : (g == h) = false := by simpa using hgh
        have hC : cmpN x y ≤ -1 := by rw [g0u (by omega)]; omega
        have HXY := hi0 (show x ≤ y by omega)
        have lm : (dig B16 (y - x)).length ≤ 5000000 := by have := a0j a0e (Nat.sub_le y x); omega
        clear hxy hgh
        have a0 := A4.c0
        have b0 := B4.c0
        go_wp2_with fail
        ((with_reducible refine (d0o px py _ _ cx cy x y _ hrx hry rfl rfl (by omega) (by omega)).mono ?_))
        rintro e9 w9 ⟨rfl, hb9⟩
        clear a0 b0
        have hs9 := hs4.trans (hb9.mono hs4.size)
        have hz9 := hb9.size
        replace A4 := A4.past hb9
        replace B4 := B4.past hb9
        replace R4 := R4.past hb9
        replace hrx := hrx.past hb9
        replace hry := hry.past hb9
        go_wp2_with fail
        obtain ⟨m, hm⟩ : ∃ m, y - x = m := ⟨_, rfl⟩
        have HM := hi0 hm
        rw [hm] at HK lm
        clear hm
        go_region_held3 (fun w' => w'.cell? ⟨w.heap.size + 1, 0, none⟩ = some (.bool h))
         (first | exact B4.c0 | exact B4.drew.c0 | exact (B4.drew.past hb6).c0 | exact ((B4.drew.past hb6).past hb7).c0 | exact (((((B4.drew.past hb6).past hb7).set (by omega)).set (by omega)).set (by omega)).c0)
         (first | (go_at_call 123; refine (i0g py px _ _ cy cx y x _ hry.drew hrx.drew rfl rfl (by omega) HXY.out).mono ?_; rw [HM.out]; rintro e6 w6 ⟨p6, c6, rfl, hr6, hc6, hf6, hb6⟩)
                | (go_at_call 24; refine (g0o h p6 _ c6 k m _ hr6 rfl (by omega) (by omega)).mono ?_; generalize bare ⟨h, m, k⟩ = rr at *; rintro e7 w7 ⟨p7, c7, rfl, hr7, hc7, hf7, hb7⟩; obtain ⟨d0, d1, d2, f0, f1, f2, dlt⟩ := (R4.drew.past hb6).past hb7))
        all_goals (go_wp2_with fail)
        refine bodyPost_ret (v := .agg #[.bool rr.neg, .slice p7 (dig B16 rr.m).length c7, .int .i64 rr.e]) (by simp [results, Tryz.results74, go_sem, d0, d1, d2]) rfl ?_
        rw [HK.out]
        have hzd : w9.drew.heap.size = w9.heap.size := rfl
        have hs6 := hs9.drew.trans (hb6.mono hs9.size)
        have hz6 := hb6.size
        have hzR := R4.lt
        have hzS := hs9.size
        have hf : 0 < (dig B16 rr.m).length → w6.heap.size ≤ blk p7 := fun h => by rcases hf7 h with h | h; exact h.elim; exact h
        exact g0l (hs6.trans (hb7.mono hs6.size)) hr7 hc7 (fun h => .inr (by have := hf h; omega)) (by omega) (fun h => by have := hf h; omega)
theorem w0l (P : Nat → Prop) (g : Bool) (p : OA) (n c : Nat) (e : Int) (a : Nat) (w : World) (hp : Rd w .i64 p (dig B16 a)) (hn : n = (dig B16 a).length) (hc : n ≤ c) (hP : 0 < (dig B16 a).length → P (blk p)) :
 Calls Tryz.prog 75 #[.agg #[.bool g, .slice p n c, .int .i64 e]] w (p0f w P (d0c ⟨g, a, e⟩)) := by
 subst hn
 have hz := a0f a0e a
 cases g
 · by_cases h0 : 0 < (dig B16 a).length
   · have t1 : decide ((0 : Int) < ((dig B16 a).length : Int)) = true := dTr (by omega)
     have hd : d0c ⟨false, a, e⟩ = ⟨true, a, e⟩ := by unfold d0c; simp; (try omega)
     rw [hd]
     clear hd hz
     go_enter Tryz.func75, Tryz.ntmps75
     go_wp2
     refine bodyPost_ret (v := .agg #[.bool true, .slice p (dig B16 a).length c, .int .i64 e]) (by simp [results, Tryz.results75, go_sem]) rfl ?_
     exact ⟨p, c, rfl, (hp.laid _).laid _, hc, fun h => .inl (hP h), j0s _ _ _⟩
   · have t1 : decide ((0 : Int) < ((dig B16 a).length : Int)) = false := dFa (by omega)
     have hd : d0c ⟨false, a, e⟩ = ⟨false, a, e⟩ := by unfold d0c; simp; (try omega)
     rw [hd]
     clear hd hz
     go_enter Tryz.func75, Tryz.ntmps75
     go_wp2
     refine bodyPost_ret (v := .agg #[.bool false, .slice p (dig B16 a).length c, .int .i64 e]) (by simp [results, Tryz.results75, go_sem]) rfl ?_
     exact ⟨p, c, rfl, (hp.laid _).laid _, hc, fun h => .inl (hP h), j0s _ _ _⟩
 · have t0 := True.intro
   have hd : d0c ⟨true, a, e⟩ = ⟨false, a, e⟩ := by unfold d0c; simp; (try omega)
   rw [hd]
   clear hd hz
   go_enter Tryz.func75, Tryz.ntmps75
   go_wp2
   refine bodyPost_ret (v := .agg #[.bool false, .slice p (dig B16 a).length c, .int .i64 e]) (by simp [results, Tryz.results75, go_sem]) rfl ?_
   exact ⟨p, c, rfl, (hp.laid _).laid _, hc, fun h => .inl (hP h), j0s _ _ _⟩
theorem c1v (a b : Dv) : rCmp a b = if (v0f a (d0c b)).m = 0 then 0 else if (v0f a (d0c b)).neg then -1 else 1 := rfl
theorem y0x (g h : Bool) (p q : OA) (n c m d : Nat) (e f : Int) (a b : Nat) (w : World) (hp : Rd w .i64 p (dig B16 a)) (hq : Rd w .i64 q (dig B16 b)) (hn : n = (dig B16 a).length) (hm : m = (dig B16 b).length) (hcm : m ≤ d)
 (hl : (dig B16 a).length ≤ 1000000) (hl2 : (dig B16 b).length ≤ 1000000) (he : -1000000 ≤ e ∧ e ≤ 1000000) (hf : -1000000 ≤ f ∧ f ≤ 1000000) :
 Calls Tryz.prog 33 #[.agg #[.bool g, .slice p n c, .int .i64 e], .agg #[.bool h, .slice q m d, .int .i64 f]] w fun en w' => en = .returned (.int .i64 (rCmp ⟨g, a, e⟩ ⟨h, b, f⟩)) ∧ Below w.heap.size w w' := by
 subst hn hm
 have hs1 := j0s w (.cells #[.bool g, .slice p (dig B16 a).length c, .int .i64 e] 28) (.cells #[.bool h, .slice q (dig B16 b).length d, .int .i64 f] 28)
 have A1 := (d0n w (.bool g) (.slice p (dig B16 a).length c) (.int .i64 e) 28).laid (.cells #[.bool h, .slice q (dig B16 b).length d, .int .i64 f] 28)
 have B1 := d0n (w.alloc (.cells #[.bool g, .slice p (dig B16 a).length c, .int .i64 e] 28)) (.bool h) (.slice q (dig B16 b).length d) (.int .i64 f) 28
 simp only [World.size_alloc] at B1
 have hp1 := hp.past hs1
 have hq1 := hq.past hs1
 have HC := hi0 (c1v ⟨g, a, e⟩ ⟨h, b, f⟩)
 obtain ⟨mi, hmi⟩ : ∃ mi, d0c ⟨h, b, f⟩ = mi := ⟨_, rfl⟩
 have hmm : mi.m = b ∧ mi.e = f := by rw [← hmi]; exact ⟨rfl, rfl⟩
 have HMI := hi0 hmi
 rw [hmi] at HC
 clear hmi
 obtain ⟨h', b', f'⟩ := mi
 simp only at hmm
 obtain ⟨rfl, rfl⟩ := hmm
 obtain ⟨⟨gr, mr, xr⟩, hr⟩ : ∃ r, v0f ⟨g, a, e⟩ ⟨h', b', f'⟩ = r := ⟨_, rfl⟩
 rw [hr] at HC
 have HR := hi0 hr
 clear hr
 have hz := a0f a0e mr
 obtain ⟨W1, hW1⟩ : ∃ W1, W1 = (w.alloc (.cells #[.bool g, .slice p (dig B16 a).length c, .int .i64 e] 28)).alloc (.cells #[.bool h, .slice q (dig B16 b').length d, .int .i64 f'] 28) := ⟨_, rfl⟩
 have hz1 : W1.heap.size = w.heap.size + 1 + 1 := by rw [hW1]; simp
 rw [← hW1] at hs1 A1 B1 hp1 hq1
 have HW1 := hi0 hW1
 clear hW1
 have HZ := hi0 hz
 clear hz
 go_enter Tryz.func33, Tryz.ntmps33
 go_wp2_with fail
 rw [← HW1.out]
 clear HW1
 go_cut [5] (fun s5 wx => ∃ (k : Nat) (pr : OA) (cr : Nat), s5 = .pointer (some ⟨k, 0, none⟩) ∧ wx.cell? ⟨k, 0, none⟩ = some (.bool gr) ∧ wx.cell? ⟨k, 1, none⟩ = some (.slice pr (dig B16 mr).length cr) ∧ Below w.heap.size w wx)
 case first =>
  go_region_held3 (fun w' => (w'.cell? ⟨w.heap.size, 0, none⟩ = some (.bool g) ∧ w'.cell? ⟨w.heap.size, 1, none⟩ = some (.slice p (dig B16 a).length c) ∧ w'.cell? ⟨w.heap.size, 2, none⟩ = some (.int .i64 e)) ∧
      (w'.cell? ⟨w.heap.size + 1, 0, none⟩ = some (.bool h) ∧ w'.cell? ⟨w.heap.size + 1, 1, none⟩ = some (.slice q (dig B16 b').length d) ∧ w'.cell? ⟨w.heap.size + 1, 2, none⟩ = some (.int .i64 f')))
   (first | exact ⟨⟨(((A6.set hkA).set hkA).set hkA).c0, (((A6.set hkA).set hkA).set hkA).c1, (((A6.set hkA).set hkA).set hkA).c2⟩, (((B6.set hkB).set hkB).set hkB).c0, (((B6.set hkB).set hkB).set hkB).c1, (((B6.set hkB).set hkB).set hkB).c2⟩
          | exact ⟨⟨(A6.laid _).c0, (A6.laid _).c1, (A6.laid _).c2⟩, (B6.laid _).c0, (B6.laid _).c1, (B6.laid _).c2⟩
          | exact ⟨⟨(A6).c0, (A6).c1, (A6).c2⟩, (B6).c0, (B6).c1, (B6).c2⟩
          | exact ⟨⟨((A1.drew.laid _).past hb2).c0, ((A1.drew.laid _).past hb2).c1, ((A1.drew.laid _).past hb2).c2⟩, ((B1.drew.laid _).past hb2).c0, ((B1.drew.laid _).past hb2).c1, ((B1.drew.laid _).past hb2).c2⟩
          | exact ⟨⟨((A1.drew.past hb2).laid _).c0, ((A1.drew.past hb2).laid _).c1, ((A1.drew.past hb2).laid _).c2⟩, ((B1.drew.past hb2).laid _).c0, ((B1.drew.past hb2).laid _).c1, ((B1.drew.past hb2).laid _).c2⟩
          | exact ⟨⟨(A1.drew.past hb2).c0, (A1.drew.past hb2).c1, (A1.drew.past hb2).c2⟩, (B1.drew.past hb2).c0, (B1.drew.past hb2).c1, (B1.drew.past hb2).c2⟩
          | exact ⟨⟨(A1.drew.laid _).c0, (A1.drew.laid _).c1, (A1.drew.laid _).c2⟩, (B1.drew.laid _).c0, (B1.drew.laid _).c1, (B1.drew.laid _).c2⟩
          | exact ⟨⟨(A1.drew).c0, (A1.drew).c1, (A1.drew).c2⟩, (B1.drew).c0, (B1.drew).c1, (B1.drew).c2⟩
          | exact ⟨⟨(A1).c0, (A1).c1, (A1).c2⟩, (B1).c0, (B1).c1, (B1).c2⟩)
   (first
     | (go_at_call 75; refine (w0l (fun _ => True) h q _ d f' b' _ ?_ rfl hcm (fun _ => trivial)).mono ?_; (first | exact hq1.drew | exact hq1.drew.laid _); rw [HMI.out]; rintro e2 w2 ⟨p2, c2, rfl, hr2, hc2, hf2, hb2⟩)
     | (go_at_call 74; refine (w0k g h' p p2 _ c _ c2 e f' a b' _ ?_ ?_ rfl rfl hl hl2 he hf).mono ?_; (first | exact hp1.drew.past hb2 | exact (hp1.drew.laid _).past hb2 | exact (hp1.drew.past hb2).laid _); (first | exact hr2 | exact hr2.laid _); rw [HR.out]; rintro e3 w3 ⟨p3, c3, rfl, hr3, hc3, hf3, hb3⟩; (first
         | (have K3 := ((d0n W1.drew (.bool false) (.slice none 0 0) (.int .i64 0) 28).past hb2).past hb3; have hK3 : W1.drew.heap.size = W1.heap.size := rfl; rw [hK3, hz1] at K3; clear hK3; have KP := K3.put (.bool gr) (.slice p3 (dig B16 mr).length c3) (.int .i64 xr); obtain ⟨k0, k1, k2, k3, k4, k5, k6⟩ := K3; have hsA := (hs1.alloc hs1.size (.cells #[.bool false, .slice none 0 0, .int .i64 0] 28)).drew; have hs2 := hsA.trans (hb2.mono hsA.size); have hs3 := hs2.trans (hb3.mono hs2.size); have hkK : w.heap.size ≤ w.heap.size + 1 + 1 := Nat.le_succ_of_le (Nat.le_succ _); have A6 := ((A1.drew.laid _).past hb2).past hb3; have B6 := ((B1.drew.laid _).past hb2).past hb3; have hkA : w.heap.size < w.heap.size + 1 + 1 := Nat.lt_succ_of_lt (Nat.lt_succ_self _); have hkB : w.heap.size + 1 < w.heap.size + 1 + 1 := Nat.lt_succ_self _)
         | (have K3 := (d0n w2 (.bool false) (.slice none 0 0) (.int .i64 0) 28).past hb3; have KP := K3.put (.bool gr) (.slice p3 (dig B16 mr).length c3) (.int .i64 xr); obtain ⟨k0, k1, k2, k3, k4, k5, k6⟩ := K3; have hs2 := hs1.drew.trans (hb2.mono hs1.size); have hkK : w.heap.size ≤ w2.heap.size := hs2.size; have hsA := hs2.alloc hs2.size (.cells #[.bool false, .slice none 0 0, .int .i64 0] 28); have hs3 := hsA.trans (hb3.mono hsA.size); have A6 := ((A1.drew.past hb2).laid _).past hb3; have B6 := ((B1.drew.past hb2).laid _).past hb3; have hkA : w.heap.size < w2.heap.size := (A1.drew.past hb2).lt; have hkB : w.heap.size + 1 < w2.heap.size := (B1.drew.past hb2).lt)
         | (have hs2 := hs1.drew.trans (hb2.mono hs1.size); have hs3 := hs2.trans (hb3.mono hs2.size); have A6 := (A1.drew.past hb2).past hb3; have B6 := (B1.drew.past hb2).past hb3))))
  all_goals (go_wp2_with fail)
  all_goals go_meet
  all_goals (first
    | exact ⟨_, p3, c3, rfl, KP.c0, KP.c1, ((hs3.setCell hkK _).setCell hkK _).setCell hkK _⟩
    | exact ⟨w3.heap.size, p3, c3, rfl, (d0n w3 _ _ _ _).c0, (d0n w3 _ _ _ _).c1, hs3.alloc hs3.size _⟩)
 case rest =>
  obtain ⟨k, pr, cr, rfl, k0, k1, hs9⟩ := hcut
  by_cases h0 : mr = 0
  · have hl0 : (dig B16 mr).length = 0 := HZ.out.2 h0
    have HK := hi0 (HC.out.trans (by rw [if_pos h0]))
    rw [hl0] at k1
    clear hl0 h0
    go_wp2
    go_ret
    exact ⟨g0t HK.out.symm, hs9⟩
  · have t1 : (((dig B16 mr).length : Int) == 0) = false := bFn (fun h => h0 (HZ.out.1 (by omega)))
    cases gr
    · have HK := hi0 (HC.out.trans (by rw [if_neg h0]))
      clear h0
      go_wp2
      go_ret
      exact ⟨g0t HK.out.symm, hs9⟩
    · have HK := hi0 (HC.out.trans (by rw [if_neg h0]))
      clear h0
      go_wp2
      go_ret
      exact ⟨g0t HK.out.symm, hs9⟩
end Go.Proofs.YtpgomglbaacmdaaGreatDoor
namespace Go.Slip
end Go.Slip
namespace Go.Proofs.YtpgomglbaacmdaaGreatDoor
open Go.RowKit Go.Slip
theorem d0u : dig B16 1 = [1] := by rw [c0d a0e (by omega), show 1 / B16 = 0 by unfold B16; omega, a0c, show 1 % B16 = 1 by unfold B16; omega]
theorem n1p {w : World} {b : Nat} {t : TypeId} (h : Bt w b t #[.int .i64 1]) : Rf w b (some ⟨b, 0, none⟩) 1 (dig B16 1) := by rw [d0u]; exact m1q (k := 1) h
theorem w0m : 1 = (dig B16 1).length := by rw [d0u]; rfl
theorem stay {P : Program} {f : FuncId} {args : Array Value} {w : World} {E : Ending} (h : Calls P f args w fun e w' => e = E ∧ w = w') : Calls P f args w fun e w' => e = E ∧ Below w.heap.size w w' :=
 h.mono fun e w' ⟨h1, h2⟩ => ⟨h1, by subst h2; exact Below.refl _ _⟩
theorem p0m {a b : Nat} (h : cmpN a b = 0) : a = b := by
 unfold cmpN at h
 split at h
 · omega
 · split at h <;> omega
theorem a1z {n : Nat} (x : Nat) (hl : (dig B32 x).length ≤ n) : tz x ≤ 32 * n := by
 rcases Nat.eq_zero_or_pos x with h | h
 · rw [h, x0s]; omega
 · have h1 := (b0t x h).1
   have h2 := (a0h a0a x n).1 hl
   have h3 : 2 ^ tz x ≤ x := by
    have : 0 < x / 2 ^ tz x := by
     rcases Nat.eq_zero_or_pos (x / 2 ^ tz x) with h4 | h4
     · rw [h4, Nat.mul_zero] at h1; omega
     · exact h4
    have h5 := Nat.mul_le_mul_left (2 ^ tz x) this
    omega
   rw [show B32 = 2 ^ 32 from rfl, ← Nat.pow_mul] at h2
   have h6 := (Nat.pow_lt_pow_iff_right (a := 2) (by omega)).1 (Nat.lt_of_le_of_lt h3 h2)
   omega
theorem u1l (x : Nat) (hl : (dig B32 x).length ≤ 1000) : tz x ≤ 32000 := a1z x hl
def n1q (w : World) (base : Nat) (d : Dc) (en : Ending) (w' : World) : Prop :=
 ∃ p c, en = .returned (.tuple #[.int .i64 (d.cls : Int), .slice p (dig B32 d.m).length c, .int .i64 d.p]) ∧ Own w' base .u32 101 p c (dig B32 d.m) ∧ Below w.heap.size w w'
theorem b0q {w w' : World} {base : Nat} {k : Nat} {en : Ending} (h : en = .returned (.tuple #[.int .i64 (k : Int), .slice none 0 0, .int .i64 0])) (hb : Below w.heap.size w w') : n1q w base ⟨k, 0, 0⟩ en w' := by
 refine ⟨none, 0, ?_, ?_, hb⟩
 · rw [h, a0c]; rfl
 · rw [a0c]; exact Own.nil _ _ _ _
theorem h1c (f : Fm) (g : Bool) (e x : Nat) (p : OA) (c base : Nat) (w : World) (G : d0h f) (hp : Own w base .u32 101 p c (dig B32 x)) (hb : base ≤ w.heap.size) (he : e < 2 ^ f.E) (hx : x < 2 ^ f.F) :
 Calls Tryz.prog 78 #[(fV f), .agg #[.bool g, .int .i64 (e : Int), .slice p (dig B32 x).length c]] w (n1q w base (f.dec g e x)) := by
 have z2 := G.e2
 have z3 := G.f2
 have z4 := G.lo
 have hxl := b0b hx (k := 2) (by omega)
 have hx0 := a0f a0a x
 have h0T : 0 < 2 ^ f.E := Nat.pow_pos (by omega)
 have h0T2 : 2 ^ f.E ≤ 2 ^ 15 := Nat.pow_le_pow_right (by omega) (by omega)
 have HSH := hi0 (s0z (E := f.E) (by omega))
 have hl63 : (dig B32 (2 ^ 63)).length ≤ 2 := b0b (n := 64) (by omega) (by omega)
 have hlF : (dig B32 (2 ^ f.F)).length ≤ 3 := b0b (n := f.F + 1) (Nat.pow_lt_pow_right (by omega) (by omega)) (by omega)
 have hcm : cmpN x (2 ^ 63) = 0 ↔ x = 2 ^ 63 := ⟨p0m, fun h => by rw [h]; unfold cmpN; simp⟩
 have hbl : blen x < 64 ↔ x < 2 ^ 63 := by have := a0u x 63; omega
 have r2 : (f.g.rad == 16) = true ↔ f.fam = 2 := by have := G.rad; rw [beq_iff_eq]; split at this <;> omega
 have r1 : f.inf = true ↔ f.fam = 1 := by unfold Fm.inf; rw [beq_iff_eq]
 have r3 : f.res = true ↔ f.fam = 3 := by unfold Fm.res; rw [beq_iff_eq]
 have rh : f.fam ≠ 2 → (f.hid = true ↔ f.ext = false) := fun h => by unfold Fm.hid; cases f.ext <;> simp [h]
 have rh2 : f.fam ≠ 2 → (¬ f.hid = true ↔ f.ext = true) := fun h => by rw [rh h]; cases f.ext <;> simp
 have rf := G.fam
 have d2 : f.fam = 2 → f.dec g e x = ⟨2, x, f.g.lo + e⟩ := fun h => by unfold Fm.dec; rw [if_pos h]
 have d3 : f.fam = 1 → e = 2 ^ f.E - 1 → (f.ext = false ∧ x = 0 ∨ f.ext = true ∧ x = 2 ^ 63) → f.dec g e x = ⟨3, 0, 0⟩ := fun h h' h'' => by unfold Fm.dec; rw [if_neg (by omega), if_pos ⟨h, h'⟩, if_pos h'']
 have d4 : f.fam = 1 → e = 2 ^ f.E - 1 → ¬ (f.ext = false ∧ x = 0 ∨ f.ext = true ∧ x = 2 ^ 63) → f.dec g e x = ⟨4, 0, 0⟩ := fun h h' h'' => by unfold Fm.dec; rw [if_neg (by omega), if_pos ⟨h, h'⟩, if_neg h'']
 have d5 : f.fam = 3 → e = 0 → f.dec g e x = if g then ⟨5, 0, 0⟩ else ⟨1, 0, 0⟩ := fun h h' => by unfold Fm.dec; rw [if_neg (by omega), if_neg (by omega), if_pos ⟨h, h'⟩]
 have d6 : f.fam = 1 → e ≠ 2 ^ f.E - 1 → e = 0 → f.dec g e x = ⟨2, x, f.g.lo⟩ := fun h h' h'' => by unfold Fm.dec; rw [if_neg (by omega), if_neg (fun k => h' k.2), if_neg (by omega), if_pos h'']
 have d7 : f.fam ≠ 2 → ¬ (f.fam = 1 ∧ e = 2 ^ f.E - 1) → e ≠ 0 → f.dec g e x = if f.ext = false then ⟨2, x + 2 ^ f.F, f.g.lo + e - 1⟩ else if x < 2 ^ 63 then ⟨4, 0, 0⟩ else ⟨2, x, f.g.lo + e - 1⟩ := fun h h' h'' => by unfold Fm.dec; rw [if_neg h, if_neg h', if_neg (fun k => h'' k.2), if_neg h'']
 generalize f.dec g e x = D at *
 generalize 2 ^ f.E = P at *
 have e34 : (((e : Int) == ((P - 1 : Nat) : Int)) = true ↔ e = P - 1) := by rw [beq_iff_eq]; omega
 have e59 : (((e : Int) == 0) = true ↔ e = 0) := by rw [beq_iff_eq]; omega
 let aA : Box := ⟨87, [.v (.int .i64 (f.size : Int)), .v (.int .i64 (f.E : Int)), .v (.int .i64 (f.F : Int)), .v (.int .i64 f.g.rad), .v (.int .i64 f.g.digs), .v (.int .i64 f.g.lo), .v (.int .i64 f.g.hi), .v (.bool f.g.grad), .v (.bool f.hid), .v (.bool f.inf), .v (.bool f.res), .v (.func (.func (ordF f)) #[] #[])], false⟩
 let aB : Box := ⟨140, [.v (.bool g), .v (.int .i64 (e : Int)), .v (.slice p (dig B32 x).length c)], false⟩
 let aC : SV := .v ((fV f))
 let aD : SV := .v (.agg #[.bool g, .int .i64 (e : Int), .slice p (dig B32 x).length c])
 have I := Inv.start w [ownF base .u32 101 p c (dig B32 x)] ⟨hp, True.intro⟩
 refine a0g [.v ((fV f)), .v (.agg #[.bool g, .int .i64 (e : Int), .slice p (dig B32 x).length c])] I Tryz.func78 ?_
 refine zbin I 11 _ (fun _ _ _ _ _ => o0t .i64 (1) .i64 (f.E : Int) ((P : Int)) (by omega) ((HSH.out))) fun Al W I => zi I 12 .i64 ((P : Int) - 1) (((P - 1 : Nat) : Int)) ((by rw [show ((P : Int) - 1) = ((P - 1 : Nat) : Int) by omega]; exact iwo)) fun Al W I => ?_
 rcases bTF (f.g.rad == 16) with f20 | f20
 · refine zb I 20 (f.g.rad == 16) (true) (f20) fun Al W I => zd [] I fun Al W I => zk [0, 1, 2, 3, 4] I fun I => zki 5 I .i64 (f.g.lo + (e : Int)) (f.g.lo + (e : Int)) (iwo) fun I => zk [6, 7, 8] I fun I => zret I (v := fun Al => .tuple #[vI 2, .slice p (dig B32 x).length c, vI (f.g.lo + (e : Int))]) fun Al W I => ?_
   (rw [d2 (r2.1 f20)]; exact ⟨p, c, rfl, I.fa.1, I.below⟩)
 refine zb I 20 (f.g.rad == 16) (false) (f20) fun Al W I => zcut I (some 3000005) (fun fr bx gs => ∃ (U1 : Nat → Value) (sp : Bool), fr = (aC :: aD :: .p 0 0 :: .p 1 0 :: .v (vI 0) :: .v (.slice none 0 0) :: .v (vI 0) :: .v (vI ((P - 1 : Nat) : Int)) :: .v (vI f.g.lo) :: sw U1 9 7 (.v (.bool false) :: sw U1 17 10 (.v (.bool sp) :: sw U1 28 27 (su 2 (sw U1 57 8 (su 2 (sw U1 67 6 (vu :: sw U1 74 13 (vu :: sw U1 88 11 [])))))))) : List SV) ∧ bx = [aA, aB] ∧ gs = [ownF base .u32 101 p c (dig B32 x)] ∧ (sp = true ↔ (f.fam = 1 ∧ e = P - 1)) ∧ (f.fam ≠ 2)) ?_ ?_
 · intro J hJ Al W I
   rcases bTF (f.inf) with f29 | f29
   · refine zb I 29 (f.inf) (true) (f29) fun Al W I => ?_
     rcases bTF ((e : Int) == ((P - 1 : Nat) : Int)) with f34 | f34
     · refine zb I 34 ((e : Int) == ((P - 1 : Nat) : Int)) (true) (f34) fun Al W I => a0i I J fun Al W U I => hJ _ _ _ _ _ ⟨U, true, rfl, rfl, rfl, (by first | exact iff_of_true rfl ⟨r1.1 f29, e34.1 f34⟩ | exact iff_of_false Bool.false_ne_true (fun h => by have := e34.2 h.2; rw [f34] at this; cases this) | exact iff_of_false Bool.false_ne_true (fun h => by have := r1.2 h.1; rw [f29] at this; cases this)), (fun h => by have := r2.2 h; rw [f20] at this; cases this)⟩ (I.pick [0])
     refine zb I 34 ((e : Int) == ((P - 1 : Nat) : Int)) (false) (f34) fun Al W I => a0i I J fun Al W U I => hJ _ _ _ _ _ ⟨U, false, rfl, rfl, rfl, (by first | exact iff_of_true rfl ⟨r1.1 f29, e34.1 f34⟩ | exact iff_of_false Bool.false_ne_true (fun h => by have := e34.2 h.2; rw [f34] at this; cases this) | exact iff_of_false Bool.false_ne_true (fun h => by have := r1.2 h.1; rw [f29] at this; cases this)), (fun h => by have := r2.2 h; rw [f20] at this; cases this)⟩ (I.pick [0])
   refine zb I 29 (f.inf) (false) (f29) fun Al W I => a0i I J fun Al W U I => hJ _ _ _ _ _ ⟨U, false, rfl, rfl, rfl, (by exact iff_of_false Bool.false_ne_true (fun h => by have := r1.2 h.1; rw [f29] at this; cases this)), (fun h => by have := r2.2 h; rw [f20] at this; cases this)⟩ (I.pick [0])
 rintro _ _ _ ⟨U1, sp, rfl, rfl, rfl, hsp, n2⟩ Al W I
 refine zcut I (some 2000027) (fun fr bx gs => ∃ (U2 : Nat → Value) , fr = (aC :: aD :: .p 0 0 :: .p 1 0 :: sw U2 4 3 (.v (vI ((P - 1 : Nat) : Int)) :: .v (vI f.g.lo) :: sw U2 9 7 (.v (.bool false) :: sw U2 17 10 (.v (.bool sp) :: sw U2 28 71 []))) : List SV) ∧ bx = [aA, aB] ∧ gs = [ownF base .u32 101 p c (dig B32 x)] ∧ (D = ⟨2, x, f.g.lo + e - 1⟩)) ?_ ?_
 · intro J hJ Al W I
   rcases bTF sp with rfl | rfl
   · by_cases s37 : f.hid = true
     · by_cases s42 : x = 0
       · obtain ⟨k1, k2⟩ := hsp.1 rfl
         refine zd [] I fun Al W I => zk [0] I fun I => zkb 1 I (f.hid) (true) (s37) fun I => zk [2, 3, 4, 5] I fun I => zkb 6 I ((((dig B32 x).length : Nat) : Int) == 0) (true) (beq_iff_eq.2 (by omega)) fun I => zk [7, 8, 9, 10, 11, 12, 13, 14, 15, 16, 17, 18, 19] I fun I => zret I (v := fun Al => .tuple #[vI 3, .slice none 0 0, vI 0]) fun Al W I => ?_
         first | (rw [d2 (r2.1 f20)]; exact ⟨p, c, rfl, I.fa.1, I.below⟩) | (rw [d3 k1 k2 (.inl ⟨(rh n2).1 s37, s42⟩)]; exact b0q (k := 3) rfl I.below) | (rw [d4 k1 k2 (fun h => h.elim (fun h => absurd h.2 s42) (fun h => by have := (rh n2).1 s37; rw [this] at h; cases h.1))]; exact b0q (k := 4) rfl I.below)
       obtain ⟨k1, k2⟩ := hsp.1 rfl
       refine zd [] I fun Al W I => zk [0] I fun I => zkb 1 I (f.hid) (true) (s37) fun I => zk [2, 3, 4, 5] I fun I => zkb 6 I ((((dig B32 x).length : Nat) : Int) == 0) (false) (bFn (by omega)) fun I => zk [7, 8, 9] I fun I => zkb 10 I (f.hid) (true) (s37) fun I => zk [11, 12, 13, 14, 15, 16, 17, 18, 19] I fun I => zret I (v := fun Al => .tuple #[vI 4, .slice none 0 0, vI 0]) fun Al W I => ?_
       first | (rw [d2 (r2.1 f20)]; exact ⟨p, c, rfl, I.fa.1, I.below⟩) | (rw [d3 k1 k2 (.inl ⟨(rh n2).1 s37, s42⟩)]; exact b0q (k := 3) rfl I.below) | (rw [d4 k1 k2 (fun h => h.elim (fun h => absurd h.2 s42) (fun h => by have := (rh n2).1 s37; rw [this] at h; cases h.1))]; exact b0q (k := 4) rfl I.below)
     by_cases s53 : x = 2 ^ 63
     · obtain ⟨k1, k2⟩ := hsp.1 rfl
       refine zd [] I fun Al W I => zk [0] I fun I => zkb 1 I (f.hid) (false) ((by simpa using s37)) fun I => zk [2, 3, 4, 5, 6, 7, 8, 9] I fun I => zkb 10 I (f.hid) (false) ((by simpa using s37)) fun I => zk [11, 12, 13, 14] I fun I => zo 15 I fun I => zqo I (fun Al W I => have hzW := I.bel.size; j0b 63 (2 ^ 63) 63 W (by omega) rfl rfl) fun Al W p51 c51 I => zo 16 I fun I => zq I (fun Al W I => have hzW := I.bel.size; f0m p p51 _ _ c c51 x (2 ^ 63) W I.fa.2.1.rd I.fa.1.rd rfl rfl (by omega) (by omega)) fun Al W I => zkb 17 I ((cmpN x (2 ^ 63)) == 0) (true) (beq_iff_eq.2 (hcm.2 s53)) fun I => zk [18, 19] I fun I => zret I (v := fun Al => .tuple #[vI 3, .slice none 0 0, vI 0]) fun Al W I => ?_
       first | (rw [d2 (r2.1 f20)]; exact ⟨p, c, rfl, I.fa.2.1, I.below⟩) | (rw [d3 k1 k2 (.inr ⟨(rh2 n2).1 s37, s53⟩)]; exact b0q (k := 3) rfl I.below) | (rw [d4 k1 k2 (fun h => h.elim (fun h => by have := (rh2 n2).1 s37; rw [this] at h; cases h.1) (fun h => absurd h.2 s53))]; exact b0q (k := 4) rfl I.below)
     obtain ⟨k1, k2⟩ := hsp.1 rfl
     refine zd [] I fun Al W I => zk [0] I fun I => zkb 1 I (f.hid) (false) ((by simpa using s37)) fun I => zk [2, 3, 4, 5, 6, 7, 8, 9] I fun I => zkb 10 I (f.hid) (false) ((by simpa using s37)) fun I => zk [11, 12, 13, 14] I fun I => zo 15 I fun I => zqo I (fun Al W I => have hzW := I.bel.size; j0b 63 (2 ^ 63) 63 W (by omega) rfl rfl) fun Al W p51 c51 I => zo 16 I fun I => zq I (fun Al W I => have hzW := I.bel.size; f0m p p51 _ _ c c51 x (2 ^ 63) W I.fa.2.1.rd I.fa.1.rd rfl rfl (by omega) (by omega)) fun Al W I => zkb 17 I ((cmpN x (2 ^ 63)) == 0) (false) (bFn (fun h => s53 (hcm.1 h))) fun I => zk [18, 19] I fun I => zret I (v := fun Al => .tuple #[vI 4, .slice none 0 0, vI 0]) fun Al W I => ?_
     first | (rw [d2 (r2.1 f20)]; exact ⟨p, c, rfl, I.fa.2.1, I.below⟩) | (rw [d3 k1 k2 (.inr ⟨(rh2 n2).1 s37, s53⟩)]; exact b0q (k := 3) rfl I.below) | (rw [d4 k1 k2 (fun h => h.elim (fun h => by have := (rh2 n2).1 s37; rw [this] at h; cases h.1) (fun h => absurd h.2 s53))]; exact b0q (k := 4) rfl I.below)
   rcases bTF ((e : Int) == 0) with f59 | f59
   · refine zb I 59 ((e : Int) == 0) (true) (f59) fun Al W I => ?_
     rcases bTF (f.res) with f62 | f62
     · refine zb I 62 (f.res) (true) (f62) fun Al W I => ?_
       rcases bTF (g) with f65 | f65
       · refine zb I 65 (g) (true) (f65) fun Al W I => zret I (v := fun Al => .tuple #[vI 5, .slice none 0 0, vI 0]) fun Al W I => ?_
         first | (rw [d2 (r2.1 f20)]; exact ⟨p, c, rfl, I.fa.1, I.below⟩) | (rw [d5 (r3.1 f62) (e59.1 f59), f65]; first | exact b0q (k := 5) rfl I.below | exact b0q (k := 1) rfl I.below) | (rw [d6 (by have : f.fam ≠ 3 := fun h => (by have := r3.2 h; rw [f62] at this; cases this); omega) (fun h => Bool.false_ne_true (hsp.2 ⟨by have : f.fam ≠ 3 := fun h => (by have := r3.2 h; rw [f62] at this; cases this); omega, h⟩)) (e59.1 f59)]; exact ⟨p, c, rfl, I.fa.1, I.below⟩)
       refine zb I 65 (g) (false) (f65) fun Al W I => zret I (v := fun Al => .tuple #[vI 1, .slice none 0 0, vI 0]) fun Al W I => ?_
       first | (rw [d2 (r2.1 f20)]; exact ⟨p, c, rfl, I.fa.1, I.below⟩) | (rw [d5 (r3.1 f62) (e59.1 f59), f65]; first | exact b0q (k := 5) rfl I.below | exact b0q (k := 1) rfl I.below) | (rw [d6 (by have : f.fam ≠ 3 := fun h => (by have := r3.2 h; rw [f62] at this; cases this); omega) (fun h => Bool.false_ne_true (hsp.2 ⟨by have : f.fam ≠ 3 := fun h => (by have := r3.2 h; rw [f62] at this; cases this); omega, h⟩)) (e59.1 f59)]; exact ⟨p, c, rfl, I.fa.1, I.below⟩)
     refine zb I 62 (f.res) (false) (f62) fun Al W I => zb I 69 ((e : Int) == 0) (true) (f59) fun Al W I => zd [] I fun Al W I => zk [0, 1, 2, 3, 4, 5] I fun I => zret I (v := fun Al => .tuple #[vI 2, .slice p (dig B32 x).length c, vI f.g.lo]) fun Al W I => ?_
     first | (rw [d2 (r2.1 f20)]; exact ⟨p, c, rfl, I.fa.1, I.below⟩) | (rw [d6 (by have : f.fam ≠ 3 := fun h => (by have := r3.2 h; rw [f62] at this; cases this); omega) (fun h => Bool.false_ne_true (hsp.2 ⟨by have : f.fam ≠ 3 := fun h => (by have := r3.2 h; rw [f62] at this; cases this); omega, h⟩)) (e59.1 f59)]; exact ⟨p, c, rfl, I.fa.1, I.below⟩)
   refine zb I 59 ((e : Int) == 0) (false) (f59) fun Al W I => zb I 69 ((e : Int) == 0) (false) (f59) fun Al W I => ?_
   rcases bTF (f.hid) with f75 | f75
   · refine zb I 75 (f.hid) (true) (f75) fun Al W I => zd [] I fun Al W I => zk [0, 1, 2, 3, 6, 7, 8] I fun I => zki 9 I .i64 (f.g.lo + (e : Int)) (f.g.lo + (e : Int)) (iwo) fun I => zki 10 I .i64 ((f.g.lo + (e : Int)) - 1) ((f.g.lo + (e : Int)) - 1) (iwo) fun I => zo 4 I fun I => zqo I (fun Al W I => have hzW := I.bel.size; j0b f.F (2 ^ f.F) _ W (by omega) rfl rfl) fun Al W p80 c80 I => zo 5 I fun I => zqo I (fun Al W I => have hzW := I.bel.size; sadd p p80 _ _ c c80 x (2 ^ f.F) (x + 2 ^ f.F) W I.fa.2.1.rd I.fa.1.rd rfl rfl (by omega) (by omega) rfl) fun Al W p81 c81 I => zk [11, 12, 13] I fun I => zret I (v := fun Al => .tuple #[vI 2, .slice p81 (dig B32 (x + 2 ^ f.F)).length c81, vI ((f.g.lo + (e : Int)) - 1)]) fun Al W I => ?_
     (rw [d7 n2 (fun h => Bool.false_ne_true (hsp.2 h)) (fun h => by have := e59.2 h; rw [f59] at this; cases this), if_pos ((rh n2).1 f75)]; exact ⟨p81, c81, rfl, I.fa.1.mono (by omega), I.below⟩)
   refine zb I 75 (f.hid) (false) (f75) fun Al W I => zq I (fun Al W I => have hzW := I.bel.size; stay (i0z p _ c x W I.fa.1.rd rfl (by omega))) fun Al W I => ?_
   rcases bTF (decide (((blen x : Nat) : Int) < 64)) with f91 | f91
   · refine zb I 91 (decide (((blen x : Nat) : Int) < 64)) (true) (f91) fun Al W I => zret I (v := fun Al => .tuple #[vI 4, .slice none 0 0, vI 0]) fun Al W I => ?_
     first | (rw [d2 (r2.1 f20)]; exact ⟨p, c, rfl, I.fa.1, I.below⟩) | (rw [d7 n2 (fun h => Bool.false_ne_true (hsp.2 h)) (fun h => by have := e59.2 h; rw [f59] at this; cases this), if_neg (by rw [← rh n2, f75]; exact Bool.false_ne_true), if_pos (hbl.1 (by have := oTr f91; omega))]; exact b0q (k := 4) rfl I.below)
   refine zb I 91 (decide (((blen x : Nat) : Int) < 64)) (false) (f91) fun Al W I => a0i I J fun Al W U I => hJ _ _ _ _ _ ⟨U, rfl, rfl, rfl, (by rw [d7 n2 (fun h => Bool.false_ne_true (hsp.2 h)) (fun h => by have := e59.2 h; rw [f59] at this; cases this), if_neg (by rw [← rh n2, f75]; exact Bool.false_ne_true), if_neg (fun h => oFa f91 (by have := hbl.2 h; omega))])⟩ (I.pick [0])
 rintro _ _ _ ⟨U2, rfl, rfl, rfl, hd9⟩ Al W I
 refine zd [] I fun Al W I => zk [0, 1, 2, 3, 4] I fun I => zki 5 I .i64 (f.g.lo + (e : Int)) (f.g.lo + (e : Int)) (iwo) fun I => zki 6 I .i64 ((f.g.lo + (e : Int)) - 1) ((f.g.lo + (e : Int)) - 1) (iwo) fun I => zk [7, 8, 9] I fun I => zret I (v := fun Al => .tuple #[vI 2, .slice p (dig B32 x).length c, vI ((f.g.lo + (e : Int)) - 1)]) fun Al W I => ?_
 (rw [hd9]; exact ⟨p, c, rfl, I.fa.1, I.below⟩)
theorem h1d (p : OA) (c x : Nat) (pw : Int) (gg : Gd) (base : Nat) (w : World) (hp : Own w base .u32 101 p c (dig B32 x)) (hl : (dig B32 x).length ≤ 1000) (hpw : -100000 ≤ pw ∧ pw ≤ 100000) (hr : gg.rad = 2 ∨ gg.rad = 16) (hT : TabW w) :
 Calls Tryz.prog 79 #[.slice p (dig B32 x).length c, .int .i64 pw, .int .i64 gg.rad] w
  fun en w' => ∃ q d, en = .returned (.tuple #[.slice q (dig B32 (x / 2 ^ (tz x / wid gg * wid gg))).length d, .int .i64 (pw + (tz x / wid gg : Nat))]) ∧ Own w' w.heap.size .u32 101 q d (dig B32 (x / 2 ^ (tz x / wid gg * wid gg))) ∧ Below w.heap.size w w' := by
 have hz := u1l x hl
 rcases hr with hr | hr
 · have hw : wid gg = 1 := by unfold wid; rw [hr]; rfl
   rw [hw]
   generalize htz : tz x = z at *
   have HTZ := hi0 htz
   clear htz
   have I := Inv.start w [ownF base .u32 101 p c (dig B32 x), tabF] ⟨hp, hT, True.intro⟩
   refine a0g [.v (.slice p (dig B32 x).length c), .v (.int .i64 pw), .v (.int .i64 gg.rad)] I Tryz.func79 ?_
   refine zb I 11 (gg.rad == 16) (false) (by rw [hr]; rfl) fun Al W I => zq I (fun Al W I => have hzW := I.bel.size; stay (l0h p _ c x W I.fa.1.rd rfl (by omega) I.fa.2.1)) fun Al W I => zbin I 15 _ (fun _ _ _ _ _ => h0z .i64 ((tz x : Nat) : Int) (1) (((z / 1 : Nat) : Int)) ((by decide)) ((by rw [HTZ.out]; exact (IntWalk.i64_in _ (by simp; omega)).trans (by simp)))) fun Al W I => zi I 19 .i64 (((z / 1 : Nat) : Int) * 1) (((z / 1 * 1 : Nat) : Int)) (((iwo).trans (by omega))) fun Al W I => zqo I (fun Al W I => have hzW := I.bel.size; sshr p _ c x (z / 1 * 1) _ _ W I.fa.1.rd rfl (by have := I.fa.1.le_cap; omega) (by omega) (by omega) rfl rfl) fun Al W p20 c20 I => zi I 23 .i64 (pw + ((z / 1 : Nat) : Int)) (pw + ((z / 1 : Nat) : Int)) (iwo) fun Al W I => zret I fun Al W I => ⟨p20, c20, rfl, I.fa.1.mono (by omega), I.below⟩
 · have hw : wid gg = 4 := by unfold wid; rw [hr]; rfl
   rw [hw]
   generalize htz : tz x = z at *
   have HTZ := hi0 htz
   clear htz
   have I := Inv.start w [ownF base .u32 101 p c (dig B32 x), tabF] ⟨hp, hT, True.intro⟩
   refine a0g [.v (.slice p (dig B32 x).length c), .v (.int .i64 pw), .v (.int .i64 gg.rad)] I Tryz.func79 ?_
   refine zb I 11 (gg.rad == 16) (true) (by rw [hr]; rfl) fun Al W I => zq I (fun Al W I => have hzW := I.bel.size; stay (l0h p _ c x W I.fa.1.rd rfl (by omega) I.fa.2.1)) fun Al W I => zbin I 15 _ (fun _ _ _ _ _ => h0z .i64 ((tz x : Nat) : Int) (4) (((z / 4 : Nat) : Int)) ((by decide)) ((by rw [HTZ.out, show (z : Int).tdiv 4 = ((z / 4 : Nat) : Int) by rw [Int.tdiv_eq_ediv_of_nonneg (by omega)]; rfl]; exact iwo))) fun Al W I => zi I 19 .i64 (((z / 4 : Nat) : Int) * 4) (((z / 4 * 4 : Nat) : Int)) (((iwo).trans (by omega))) fun Al W I => zqo I (fun Al W I => have hzW := I.bel.size; sshr p _ c x (z / 4 * 4) _ _ W I.fa.1.rd rfl (by have := I.fa.1.le_cap; omega) (by omega) (by omega) rfl rfl) fun Al W p20 c20 I => zi I 23 .i64 (pw + ((z / 4 : Nat) : Int)) (pw + ((z / 4 : Nat) : Int)) (iwo) fun Al W I => zret I fun Al W I => ⟨p20, c20, rfl, I.fa.1.mono (by omega), I.below⟩
end Go.Proofs.YtpgomglbaacmdaaGreatDoor
namespace Go.Slip
open Go.RowKit Go.MapKept
def mapF (b : Nat) (es : Array MapEntry) (clock : Nat) : PF :=
 ⟨fun w => w.heap[b]? = some (.map es clock), fun a => b = a, fun _ _ h hb _ => (hb b (Array.getElem?_eq_some_iff.1 h).1 rfl).trans h, fun _ _ h hf => hf ▸ (Array.getElem?_eq_some_iff.1 h).1⟩
theorem u0c {w : World} {b base : Nat} {es : Array MapEntry} {clock : Nat} {k : IntKind} {e : TypeId} {q : OA} {c : Nat} {xs : List Nat} (h : w.heap[b]? = some (.map es clock)) (o : Own w base k e q c xs) : ¬ (q.isSome = true ∧ blk q = b) := by
 rintro ⟨hq, he⟩
 rcases o.2 with ⟨h1, h2⟩ | ⟨g', cap', cur', hv', hb', hg', _⟩
 · simp only [Value.slice.injEq] at h1
   rw [h1.1] at hq; cases hq
 · simp only [Value.slice.injEq] at hv'
   rw [hv'.1] at he
   have hE : g' = b := he
   subst hE
   have := h.symm.trans hg'
   simp at this
section
variable {P : Program} {ops : Array Oper} {o : Oper} {a : Act} {Q : Exit → Act → World → Prop} {w w' : World} {K : Act → World → Prop}
theorem s1z (d : Option Tmp) (hd : o.dst = d) (v : Value) (hw : Region.wanted o (yielded ops a.tmps) = true) (hr : (execOp a.eval o).run P w = .ok (.value v) w') (h : K (a.put d v) w') : OpW P ops Q o K a w := by
 subst hd
 refine ⟨?_⟩
 rw [if_pos hw]
 unfold Oper.wp
 rw [hr]
 exact h
theorem h1e (d : Option Tmp) (hd : o.dst = d) (hw : Region.wanted o (yielded ops a.tmps) = true) (hr : (execOp a.eval o).run P w = .ok .skip w') (h : K (a.put d undef) w') : OpW P ops Q o K a w := by
 subst hd
 refine ⟨?_⟩
 rw [if_pos hw]
 unfold Oper.wp
 rw [hr]
 exact h
theorem u0d {ik : IntKind} {mt kt vt : TypeId} (hm : P.underlying mt = some (.map kt vt)) (hk : P.underlying kt = some (.int ik)) {b : Nat} {es : Array MapEntry} {clock : Nat} (hb : w.heap[b]? = some (.map es clock)) (k : Int) (v : Value)
 (hf : Instr.findNow (.int ik) (.int ik k) es.toList 0 = some none) :
 (Instr.mapUpdate mt (.map (some b)) (.int ik k) v).run P w = .ok () { w with heap := w.heap.setIfInBounds b (.map (es.push ⟨.int ik k, v, clock⟩) (clock + 1)) } := by
 simp [Instr.mapUpdate, run_underlying hm, MapKept.run_getObj_map hb, run_checkKey hk (m0b ik k), run_findKey hk hf, run_setObj_map _ hb, Result.andThen]
end
section
variable {P : Program} {Q : Exit → Act → World → Prop} {E : List Nat} {w0 : World} {A : List Nat} {fs : List PF} {W V : World} {c : Cfg}
def mkOf (c : Cfg) : Option TypeId :=
 match hdOp c with
 | some ⟨_, .makeMap t none, _, _, _, _⟩ => some t
 | _ => none
theorem zmkm (I : Inv E w0 A c.bx fs W) (t : TypeId) (h : ∀ A W b, w0.heap.size ≤ b → Inv E w0 A (putc (zr P none c) (.v (.map (some b)))).bx (mapF b #[] 0 :: fs) W → G P Q A (putc (zr P none c) (.v (.map (some b)))) W)
 (ho : mkOf (zr P none c) = some t := by kernel_rfl)
 (hr : ∀ A w, (zms P none 5000 c A w).map (·.1) = (zms P none 5000 c A w).map (·.2) := by intro _ _; kernel_rfl)
 (hm : ok1 (zr P none c).rg (zr P none c).bx = ok2 (zr P none c).rg := by kernel_rfl) : G P Q A c W :=
 b0s I hr fun A W I => by
  have h2 := h A
  clear hr h
  generalize zr P none c = c at *
  unfold mkOf hdOp at ho
  split at ho
  · rename_i hn'
    split at hn'
    · rename_i o' hn
      split at hn'
      · rename_i hw
        simp only [Option.some.injEq] at hn' ho
        subst hn' ho
        have hbl : Below W.heap.size W (W.alloc (.map #[] 0)) := (Below.refl _ _).alloc (Nat.le_refl _) _
        have hb : (W.alloc (.map #[] 0)).heap[W.heap.size]? = some (.map #[] 0) := by show (W.heap.push _)[_]? = _; simp
        have I2 := (I.past hbl).add (mapF W.heap.size #[] 0) hb (fun a ha hf => by have := I.lt a ha; have hf : W.heap.size = a := hf; omega)
        refine G_op (E := E) (w0 := w0) (fs := []) hn fun K hK => s1z _ rfl (.map (some W.heap.size)) (by rw [f0c]; exact hw) (w' := W.alloc (.map #[] 0)) ?_ ?_
        · unfold execOp
          simp only [Option.map_none, run_makeMap, Sem.run_bind, Result.andThen_ok, Sem.run_pure]
        · have h := h2 _ _ I.bel.size I2
          unfold putc at h
          rw [hn] at h
          have := hK A _ _ c.bx (List.prefix_refl _) (I2.pick []) hm h
          rw [show Value.map (some W.heap.size) = (SV.v (.map (some W.heap.size))).r A from rfl, d0b]
          exact this
      · cases hn'
    · cases hn'
  · cases ho
def t1a (c : Cfg) (A : List Nat) : Option (TypeId × Value × Value × Value) :=
 match hdOp c with
 | some ⟨_, .insert t m k x, _, _, _, _⟩ => some (t, evr A c.fr m, evr A c.fr k, evr A c.fr x)
 | _ => none
theorem zins {b : Nat} {es : Array MapEntry} {clock : Nat} (I : Inv E w0 A c.bx (mapF b es clock :: fs) W) {t : TypeId} {ik : IntKind} {kt vt : TypeId} (hmt : P.underlying t = some (.map kt vt)) (hk : P.underlying kt = some (.int ik)) (k : Int) (v : Value) (hge : w0.heap.size ≤ b)
 (hfar : ∀ A W, Inv E w0 A (zr P none c).bx (mapF b es clock :: fs) W → PF.far b fs)
 (h : ∀ A W, Inv E w0 A (putc (zr P none c) (.v undef)).bx (mapF b (es.push ⟨.int ik k, v, clock⟩) (clock + 1) :: fs) W → G P Q A (putc (zr P none c) (.v undef)) W)
 (hf : Instr.findNow (.int ik) (.int ik k) es.toList 0 = some none := by kernel_rfl)
 (ho : ∀ A, t1a (zr P none c) A = some (t, .map (some b), .int ik k, v) := by intro _; kernel_rfl)
 (hr : ∀ A w, (zms P none 5000 c A w).map (·.1) = (zms P none 5000 c A w).map (·.2) := by intro _ _; kernel_rfl)
 (hrw : t0n (zr P none c).bx = true := by kernel_rfl)
 (hm : ok1 (zr P none c).rg (zr P none c).bx = ok2 (zr P none c).rg := by kernel_rfl) : G P Q A c W :=
 b0s I hr fun A W I => by
  have ho2 := ho A
  have h2 := h A
  have hfar2 := hfar A W I
  clear hr h ho hfar
  generalize zr P none c = c at *
  unfold t1a hdOp at ho2
  split at ho2
  · rename_i hn'
    simp only [Option.some.injEq, Prod.mk.injEq] at ho2
    obtain ⟨rfl, o1, o2, o3⟩ := ho2
    split at hn'
    · rename_i o' hn
      split at hn'
      · rename_i hw
        simp only [Option.some.injEq] at hn'
        subst hn'
        have hb : W.heap[b]? = some (.map es clock) := I.fa.1
        have hbl := (Array.getElem?_eq_some_iff.1 hb).1
        have keep : ∀ j, j ≠ b → (W.heap.setIfInBounds b (.map (es.push ⟨.int ik k, v, clock⟩) (clock + 1)))[j]? = W.heap[j]? := fun j hj => Array.getElem?_setIfInBounds_ne (Ne.symm hj)
        have I2 : Inv E w0 A c.bx (mapF b (es.push ⟨.int ik k, v, clock⟩) (clock + 1) :: fs) { W with heap := W.heap.setIfInBounds b (.map (es.push ⟨.int ik k, v, clock⟩) (clock + 1)) } := by
         refine ⟨⟨I.bel.os, I.bel.tape, I.bel.output, by simp only [Array.size_setIfInBounds]; exact I.bel.size, fun j hj hjE => ?_⟩, I.ge, I.nd, I.len, I.pre, fun j hj => ?_, ⟨?_, ?_⟩, fun a ha => ⟨(I.far a ha).1, (I.far a ha).2⟩⟩
         · rw [keep j (by omega)]
           exact I.bel.block j hj hjE
         · have hF : Fa A c.bx (lk 0 A j) := ⟨j, hj, l0x hrw j hj, rfl⟩
           have h1 := I.bt j hj
           unfold Bt at h1 ⊢
           rw [keep _ (fun e => (I.far _ hF).1 e.symm)]
           exact h1
         · show (W.heap.setIfInBounds b _)[b]? = _
           simp [hbl]
         · refine PF.all_keep (by simp) I.fa.2 fun j hj ha => keep j fun e => ha _ hfar2 e.symm
        refine G_op (E := E) (w0 := w0) (fs := []) hn fun K hK => h1e _ rfl (by rw [f0c]; exact hw) (w' := { W with heap := W.heap.setIfInBounds b (.map (es.push ⟨.int ik k, v, clock⟩) (clock + 1)) }) ?_ ?_
        · rw [c0a]
          unfold execOp
          simp only [o1, o2, o3, Sem.run_bind, u0d hmt hk hb k v hf, Result.andThen_ok, Sem.run_pure]
        · have h := h2 _ I2
          unfold putc at h
          rw [hn] at h
          have := hK A _ _ c.bx (List.prefix_refl _) (I2.pick []) hm h
          rw [show undef = (SV.v undef).r A from rfl, d0b]
          exact this
      · cases hn'
    · cases hn'
  · cases ho2
theorem t1b {ik : IntKind} {t kt vt : TypeId} (hm : P.underlying t = some (.map kt vt)) (hk : P.underlying kt = some (.int ik)) {b : Nat} {es : Array MapEntry} {clock : Nat} (hb : W.heap[b]? = some (.map es clock)) (k : Int) {v : Value} (hf : ∃ i, Instr.findNow (.int ik) (.int ik k) es.toList 0 = some (some (i, v))) :
 (VO.lk t (.map (some b)) (.int ik k) false).sem.run P W = .ok v W := by
 obtain ⟨i, hf⟩ := hf
 exact g0z hm hk hb k hf
end
end Go.Slip
namespace Go.Proofs.YtpgomglbaacmdaaGreatDoor
open Go.RowKit Go.Slip
def y0y (w : World) (v : Vl) (g : Bool) (en : Ending) (w' : World) : Prop :=
 ∃ p c, en = .returned (.tuple #[.agg #[.int .i64 (v.cls : Int), .bool v.neg, .slice p (dig B32 v.d).length c, .int .i64 v.pow], .bool g]) ∧ Own w' w.heap.size .u32 101 p c (dig B32 v.d) ∧ Below w.heap.size w w'
theorem r0r {w w' : World} {v : Vl} {k : Nat} {n g : Bool} {p : OA} {c d base : Nat} {x : Int} {en : Ending} (hv : v = ⟨k, n, d, x⟩) (h : en = .returned (.tuple #[.agg #[.int .i64 (k : Int), .bool n, .slice p (dig B32 d).length c, .int .i64 x], .bool g]))
 (ho : Own w' base .u32 101 p c (dig B32 d)) (hB : w.heap.size ≤ base) (hb : Below w.heap.size w w') : y0y w v g en w' := by
 subst hv
 exact ⟨p, c, h, ho.mono hB, hb⟩
theorem f0e {w w' : World} {v : Vl} {k : Nat} {n g : Bool} {en : Ending} (hv : v = ⟨k, n, 0, 0⟩) (h : en = .returned (.tuple #[.agg #[.int .i64 (k : Int), .bool n, .slice none 0 0, .int .i64 0], .bool g])) (hb : Below w.heap.size w w') : y0y w v g en w' :=
 r0r (p := none) (c := 0) (base := w.heap.size) hv (by rw [h, a0c]; rfl) (by rw [a0c]; exact Own.nil _ _ _ _) (Nat.le_refl _) hb
theorem c1w (f : Fm) (s : ByteArray) (w : World) (G : d0h f) (hs : s.size = f.size) (hT : TabW w) :
 Calls Tryz.prog 36 #[(fV f), .string s] w (y0y w (f.valN (a0w f s)) (f.neg (a0w f s))) := by
 have z2 := G.f2
 have he : f.exp (a0w f s) < 2 ^ f.E := Nat.mod_lt _ (Nat.pow_pos (by omega))
 have hx : f.frac (a0w f s) < 2 ^ f.F := Nat.mod_lt _ (Nat.pow_pos (by omega))
 have HS := fun W => hi0 (g1z f s W G hs)
 unfold Fm.valN Fm.decN
 generalize f.neg (a0w f s) = g at *
 generalize f.exp (a0w f s) = e at *
 generalize f.frac (a0w f s) = x at *
 have HV := fun p c base W h1 h2 => hi0 (h1c f g e x p c base W G h1 h2 he hx)
 have k1 := f1w f g e x
 have k2 := j1y (f := f) g (e := e) hx
 have k3 := p1f G g (frac := x) he
 have k4 := b0b k2 (k := 3) (by omega)
 have hrd : f.g.rad = 2 ∨ f.g.rad = 16 := by have := G.rad; split at this <;> omega
 clear k2
 generalize f.dec g e x = D at *
 obtain ⟨k, m, pw⟩ := D
 simp only at k1 k3 k4
 have hm0 := a0f a0a m
 rcases k1 with rfl | rfl | rfl | rfl | rfl
 · have hv : f.vl g ⟨1, m, pw⟩ = ⟨1, g, 0, 0⟩ := by unfold Fm.vl Dc.c; simp
   have I := Inv.start w [tabF] ⟨hT, True.intro⟩
   refine a0g [.v ((fV f)), .v (.string s)] I Tryz.func36 ?_
   refine zqo I (fun Al W I => (HS W).out) fun Al W p13 c13 I => zqo I (fun Al W I => have hzW := I.bel.size; (HV p13 c13 _ W I.fa.1 (by omega)).out) fun Al W p17 c17 I => zd [1] I fun Al W I => zk [0, 1, 2] I fun I => zo 3 I fun I => zn I fun Al W I => zk [4] I fun I => zret I fun Al W I => f0e hv rfl I.below
 · by_cases h0 : m = 0
   · have hv : f.vl g ⟨2, m, pw⟩ = ⟨1, g, 0, 0⟩ := by unfold Fm.vl Dc.c; simp [h0]
     have I := Inv.start w [tabF] ⟨hT, True.intro⟩
     refine a0g [.v ((fV f)), .v (.string s)] I Tryz.func36 ?_
     refine zqo I (fun Al W I => (HS W).out) fun Al W p13 c13 I => zqo I (fun Al W I => have hzW := I.bel.size; (HV p13 c13 _ W I.fa.1 (by omega)).out) fun Al W p17 c17 I => zb I 28 ((((dig B32 m).length : Nat) : Int) == 0) (true) (beq_iff_eq.2 (by omega)) fun Al W I => zd [1] I fun Al W I => zk [0, 1, 2] I fun I => zo 3 I fun I => zn I fun Al W I => zk [4] I fun I => zret I fun Al W I => f0e hv rfl I.below
   · have hv : f.vl g ⟨2, m, pw⟩ = ⟨2, g, m / 2 ^ (tz m / wid f.g * wid f.g), pw + (tz m / wid f.g : Nat)⟩ := by unfold Fm.vl Dc.c; simp [h0]
     have HB := fun p c base W h1 hT => hi0 (h1d p c m pw f.g base W h1 (by omega) (by omega) hrd hT)
     generalize m / 2 ^ (tz m / wid f.g * wid f.g) = mm at *
     generalize pw + ((tz m / wid f.g : Nat) : Int) = pp at *
     have I := Inv.start w [tabF] ⟨hT, True.intro⟩
     refine a0g [.v ((fV f)), .v (.string s)] I Tryz.func36 ?_
     refine zqo I (fun Al W I => (HS W).out) fun Al W p13 c13 I => zqo I (fun Al W I => have hzW := I.bel.size; (HV p13 c13 _ W I.fa.1 (by omega)).out) fun Al W p17 c17 I => zb I 28 ((((dig B32 m).length : Nat) : Int) == 0) (false) (bFn (by omega)) fun Al W I => zqo I (fun Al W I => (HB p17 c17 _ W I.fa.1 I.fa.2.2.1).out) fun Al W q44 d44 I => zd [1] I fun Al W I => zk [0, 1, 2] I fun I => zo 3 I fun I => zn I fun Al W I => zk [4] I fun I => zret I fun Al W I => r0r hv rfl I.fa.1 (by omega) I.below
 · have hv : f.vl g ⟨3, m, pw⟩ = ⟨3, g, 0, 0⟩ := by unfold Fm.vl Dc.c; simp
   have I := Inv.start w [tabF] ⟨hT, True.intro⟩
   refine a0g [.v ((fV f)), .v (.string s)] I Tryz.func36 ?_
   refine zqo I (fun Al W I => (HS W).out) fun Al W p13 c13 I => zqo I (fun Al W I => have hzW := I.bel.size; (HV p13 c13 _ W I.fa.1 (by omega)).out) fun Al W p17 c17 I => zd [1] I fun Al W I => zk [0, 1, 2] I fun I => zo 3 I fun I => zn I fun Al W I => zk [4] I fun I => zret I fun Al W I => f0e hv rfl I.below
 · have hv : f.vl g ⟨4, m, pw⟩ = ⟨4, false, 0, 0⟩ := by unfold Fm.vl Dc.c; simp
   have I := Inv.start w [tabF] ⟨hT, True.intro⟩
   refine a0g [.v ((fV f)), .v (.string s)] I Tryz.func36 ?_
   refine zqo I (fun Al W I => (HS W).out) fun Al W p13 c13 I => zqo I (fun Al W I => have hzW := I.bel.size; (HV p13 c13 _ W I.fa.1 (by omega)).out) fun Al W p17 c17 I => zd [1] I fun Al W I => zk [0, 1, 2] I fun I => zo 3 I fun I => zn I fun Al W I => zk [4] I fun I => zret I fun Al W I => f0e hv rfl I.below
 · have hv : f.vl g ⟨5, m, pw⟩ = ⟨5, false, 0, 0⟩ := by unfold Fm.vl Dc.c; simp
   have I := Inv.start w [tabF] ⟨hT, True.intro⟩
   refine a0g [.v ((fV f)), .v (.string s)] I Tryz.func36 ?_
   refine zqo I (fun Al W I => (HS W).out) fun Al W p13 c13 I => zqo I (fun Al W I => have hzW := I.bel.size; (HV p13 c13 _ W I.fa.1 (by omega)).out) fun Al W p17 c17 I => zd [1] I fun Al W I => zk [0, 1, 2] I fun I => zo 3 I fun I => zn I fun Al W I => zk [4] I fun I => zret I fun Al W I => f0e hv rfl I.below
def b0m (n : Int) (s : ByteArray) : Int := if IsFm n then (if s.size = (fmt n).size then 0 else 1) else 6
theorem p1r (n : Int) (s : ByteArray) (w : World) (hn : IsFm n) (hs : s.size = (fmt n).size) :
 Calls Tryz.prog 35 #[.int .i64 n, .string s] w fun en w' => en = .returned (.tuple #[.agg #[.int .i64 (((fmt n).size : Nat) : Int), .int .i64 (((fmt n).E : Nat) : Int), .int .i64 (((fmt n).F : Nat) : Int), .int .i64 (fmt n).g.rad, .int .i64 (fmt n).g.digs, .int .i64 (fmt n).g.lo, .int .i64 (fmt n).g.hi, .bool (fmt n).g.grad, .bool (fmt n).hid, .bool (fmt n).inf, .bool (fmt n).res, .func (.func (ordF (fmt n))) #[] #[]], .int .i64 0]) ∧ Below w.heap.size w w' := by
 have HF := fun W => hi0 (h0k n hn W)
 generalize fmt n = f at *
 have I := Inv.start w [] True.intro
 refine a0g [.v (.int .i64 n), .v (.string s)] I Tryz.func35 ?_
 refine zq I (fun Al W I => (HF W).out) fun Al W I => zb I 20 ((s.size : Int) != (f.size : Int)) (false) (by simp [hs]) fun Al W I => zrb I
theorem l1d (n : Int) (s : ByteArray) (w : World) (hn : IsFm n) (hs : s.size ≠ (fmt n).size) :
 Calls Tryz.prog 35 #[.int .i64 n, .string s] w fun en w' => en = .returned (.tuple #[.agg #[.int .i64 (((fmt n).size : Nat) : Int), .int .i64 (((fmt n).E : Nat) : Int), .int .i64 (((fmt n).F : Nat) : Int), .int .i64 (fmt n).g.rad, .int .i64 (fmt n).g.digs, .int .i64 (fmt n).g.lo, .int .i64 (fmt n).g.hi, .bool (fmt n).g.grad, .bool (fmt n).hid, .bool (fmt n).inf, .bool (fmt n).res, .func (.func (ordF (fmt n))) #[] #[]], .int .i64 1]) ∧ Below w.heap.size w w' := by
 have HF := fun W => hi0 (h0k n hn W)
 generalize fmt n = f at *
 have I := Inv.start w [] True.intro
 refine a0g [.v (.int .i64 n), .v (.string s)] I Tryz.func35 ?_
 refine zq I (fun Al W I => (HF W).out) fun Al W I => zb I 20 ((s.size : Int) != (f.size : Int)) (true) (bne_iff_ne.2 (fun h => hs (by omega))) fun Al W I => zrb I
theorem l1e (n : Int) (s : ByteArray) (w : World) (hn : ¬ IsFm n) :
 Calls Tryz.prog 35 #[.int .i64 n, .string s] w fun en w' => en = .returned (.tuple #[.agg #[.int .i64 0, .int .i64 0, .int .i64 0, .int .i64 0, .int .i64 0, .int .i64 0, .int .i64 0, .bool false, .bool false, .bool false, .bool false, .nilFunc], .int .i64 6]) ∧ Below w.heap.size w w' := by
 have HF := fun W => hi0 (i0y n hn W)
 have I := Inv.start w [] True.intro
 refine a0g [.v (.int .i64 n), .v (.string s)] I Tryz.func35 ?_
 refine zq I (fun Al W I => (HF W).out) fun Al W I => zrb I
def h1f (w : World) (v : Vl) (er : Int) (en : Ending) (w' : World) : Prop :=
 ∃ p c, en = .returned (.tuple #[.agg #[.int .i64 (v.cls : Int), .bool v.neg, .slice p (dig B32 v.d).length c, .int .i64 v.pow], .int .i64 er]) ∧ Own w' w.heap.size .u32 101 p c (dig B32 v.d) ∧ Below w.heap.size w w'
def b1a : Vl := ⟨0, false, 0, 0⟩
def decP (n : Int) (s : ByteArray) : Vl := if b0m n s = 0 then (fmt n).valN (a0w (fmt n) s) else b1a
theorem b0l {n : Int} {s : ByteArray} : b0m n s = 0 ↔ IsFm n ∧ s.size = (fmt n).size := by
 unfold b0m
 by_cases h1 : IsFm n
 · rw [if_pos h1]
   by_cases h2 : s.size = (fmt n).size
   · rw [if_pos h2]; simp [h1, h2]
   · rw [if_neg h2]; simp [h2]
 · rw [if_neg h1]; simp [h1]
theorem p0n {w w' : World} {er : Int} {en : Ending} (h : en = .returned (.tuple #[.agg #[.int .i64 0, .bool false, .slice none 0 0, .int .i64 0], .int .i64 er])) (hb : Below w.heap.size w w') : h1f w b1a er en w' := by
 refine ⟨none, 0, ?_, ?_, hb⟩
 · rw [h]; show _ = Ending.returned (.tuple #[.agg #[_, _, .slice none (dig B32 0).length 0, _], _]); rw [a0c]; rfl
 · show Own _ _ _ _ _ _ (dig B32 0); rw [a0c]; exact Own.nil _ _ _ _
theorem r0s (n : Int) (s : ByteArray) (w : World) (hT : TabW w) :
 Calls Tryz.prog 9 #[.int .i64 n, .string s] w (h1f w (decP n s) (b0m n s)) := by
 by_cases hn : IsFm n
 · by_cases hs : s.size = (fmt n).size
   · have h0 : b0m n s = 0 := b0l.2 ⟨hn, hs⟩
     have hd : decP n s = (fmt n).valN (a0w (fmt n) s) := by unfold decP; rw [if_pos h0]
     rw [hd, h0]
     have HF := fun W => hi0 (p1r n s W hn hs)
     have HD := fun W h => hi0 (c1w (fmt n) s W (b0j hn) hs h)
     generalize (fmt n).valN (a0w (fmt n) s) = v at *
     generalize (fmt n).neg (a0w (fmt n) s) = g at *
     generalize fmt n = f at *
     have I := Inv.start w [tabF] ⟨hT, True.intro⟩
     refine a0g [.v (.int .i64 n), .v (.string s)] I Tryz.func9 ?_
     refine zq I (fun Al W I => (HF W).out) fun Al W I => zqo I (fun Al W I => (HD W I.fa.1).out) fun Al W p23 c23 I => zret I fun Al W I => ⟨p23, c23, rfl, I.fa.1.mono (by omega), I.below⟩
   · have h0 : b0m n s = 1 := by unfold b0m; rw [if_pos hn, if_neg hs]
     have hd : decP n s = b1a := by unfold decP; rw [if_neg (by omega)]
     rw [hd, h0]
     have HF := fun W => hi0 (l1d n s W hn hs)
     generalize fmt n = f at *
     have I := Inv.start w [] True.intro
     refine a0g [.v (.int .i64 n), .v (.string s)] I Tryz.func9 ?_
     refine zq I (fun Al W I => (HF W).out) fun Al W I => zret I fun Al W I => p0n rfl I.below
 · have h0 : b0m n s = 6 := by unfold b0m; rw [if_neg hn]
   have hd : decP n s = b1a := by unfold decP; rw [if_neg (by omega)]
   rw [hd, h0]
   have HF := fun W => hi0 (l1e n s W hn)
   have I := Inv.start w [] True.intro
   refine a0g [.v (.int .i64 n), .v (.string s)] I Tryz.func9 ?_
   refine zq I (fun Al W I => (HF W).out) fun Al W I => zret I fun Al W I => p0n rfl I.below
def d0p (n : Int) : Int := if IsFm n then 0 else 6
theorem u0e {n : Int} (h : ¬ IsFm n) : fmt n = ⟨0, 0, 0, ⟨0, 0, 0, 0, false⟩, 0, false⟩ := by
 unfold IsFm at h
 unfold fmt
 rw [if_neg (by omega), if_neg (by omega), if_neg (by omega), if_neg (by omega), if_neg (by omega), if_neg (by omega), if_neg (by omega), if_neg (by omega)]
theorem l1f (n : Int) (w : World) : Calls Tryz.prog 76 #[.int .i64 n] w fun en w' => en = .returned (.tuple #[.int .i64 (((fmt n).size : Nat) : Int), .int .i64 (d0p n)]) ∧ Below w.heap.size w w' := by
 by_cases hn : IsFm n
 · have h0 : d0p n = 0 := by unfold d0p; rw [if_pos hn]
   rw [h0]
   have HF := fun W => hi0 (h0k n hn W)
   generalize fmt n = f at *
   have I := Inv.start w [] True.intro
   refine a0g [.v (.int .i64 n)] I Tryz.func76 ?_
   refine zq I (fun Al W I => (HF W).out) fun Al W I => zrb I
 · have h0 : d0p n = 6 := by unfold d0p; rw [if_neg hn]
   rw [h0, u0e hn]
   have HF := fun W => hi0 (i0y n hn W)
   have I := Inv.start w [] True.intro
   refine a0g [.v (.int .i64 n)] I Tryz.func76 ?_
   refine zq I (fun Al W I => (HF W).out) fun Al W I => zrb I
theorem b1b (n : Int) (w : World) : Calls Tryz.prog 11 #[.int .i64 n] w fun en w' => en = .returned (.tuple #[.agg #[.int .i64 (fmt n).g.rad, .int .i64 (fmt n).g.digs, .int .i64 (fmt n).g.lo, .int .i64 (fmt n).g.hi, .bool (fmt n).g.grad], .int .i64 (d0p n)]) ∧ Below w.heap.size w w' := by
 by_cases hn : IsFm n
 · have h0 : d0p n = 0 := by unfold d0p; rw [if_pos hn]
   rw [h0]
   have HF := fun W => hi0 (h0k n hn W)
   generalize fmt n = f at *
   have I := Inv.start w [] True.intro
   refine a0g [.v (.int .i64 n)] I Tryz.func11 ?_
   refine zq I (fun Al W I => (HF W).out) fun Al W I => zrb I
 · have h0 : d0p n = 6 := by unfold d0p; rw [if_neg hn]
   rw [h0, u0e hn]
   have HF := fun W => hi0 (i0y n hn W)
   have I := Inv.start w [] True.intro
   refine a0g [.v (.int .i64 n)] I Tryz.func11 ?_
   refine zq I (fun Al W I => (HF W).out) fun Al W I => zrb I
theorem y0z (base : Nat) (p : OA) (n c : Nat) (xs : List Nat) (w : World) (ho : Own w base .u8 5 p c xs) (hn : n = xs.length) (hl : xs.length ≤ 4000000000) (h0 : 0 < xs.length) :
 Calls Tryz.prog 82 #[.slice p n c] w fun e w' => e = .returned (.tuple #[]) ∧ Own w' base .u8 5 p c xs.reverse ∧ Below base w w' := by
 subst hn
 have HR0 := hi0 (i0l.start xs h0)
 have hsx := ho.solid
 have hbk := ho.blk_lt (hsx h0).1
 go_enter Tryz.func82, Tryz.ntmps82
 go_wp2
 go_loopw [2, 3] (fun iv jv wr => ∃ (i j : Nat) (L : List Nat), iv = .int .i64 i ∧ jv = .int .i64 j ∧ i ≤ xs.length ∧ j < xs.length ∧ Own wr base .u8 5 p c L ∧ Below base w wr ∧ Hid (i0l L xs i j))
  (fun iv _ _ => xs.length - (intOf iv).toNat)
 case atStart => exact ⟨0, xs.length - 1, xs, rfl, by go_num, Nat.zero_le _, by omega, ho, Below.refl _ _, HR0⟩
 case round =>
  obtain ⟨i, j, L, rfl, rfl, hi, hj, hoL, hbL, HR⟩ := hrel
  by_cases hij : i < j
  · have hLl := hi0 HR.out.1
    have ci := hoL.rd.cells i (by rw [hLl.out]; omega)
    have cj := hoL.rd.cells j (by rw [hLl.out]; omega)
    have fi := e0q hoL i (by rw [hLl.out]; omega)
    have s1 := f0t hoL i (by rw [hLl.out]; omega) (dg L j)
    have fj := e0q s1.1 j (by rw [List.length_set, hLl.out]; omega)
    have cj2 := s1.1.rd.cells j (by rw [List.length_set, hLl.out]; omega)
    rw [b0r (by omega)] at cj2
    have s2 := f0t s1.1 j (by rw [List.length_set, hLl.out]; omega) (dg L i)
    have HS := hi0 (HR.out.step hij)
    have i1 : (i : Int) < (xs.length : Int) := by omega
    have j1 : (j : Int) < (xs.length : Int) := by omega
    have i0 : (0 : Int) ≤ (i : Int) := by omega
    have j0 : (0 : Int) ≤ (j : Int) := by omega
    have hb3 : Below base w ((wr.setCell (at_ p i) (.int .u8 (dg L j : Nat))).setCell (at_ p j) (.int .u8 (dg L i : Nat))) :=
     (hbL.setCell (by exact s1.2.2) _).setCell (by exact s1.2.2) _
    have S2 := hi0 s2
    have HB := hi0 hb3
    clear s1 s2 hb3
    go_wp2_with fail
    go_region
    have ho3 := S2.out.1.drew
    have hb3 := HB.out.drew
    clear ci cj fi fj cj2 S2 HB
    generalize ((wr.setCell (at_ p i) (.int .u8 (dg L j : Nat))).setCell (at_ p j) (.int .u8 (dg L i : Nat))).drew = w3 at ho3 hb3 ⊢
    go_wp2
    go_roundw
    case rel => exact ⟨i + 1, j - 1, _, by go_num, by go_num, by omega, by omega, ho3, hb3, HS⟩
    case measure => first | (simp [intOf]; done) | (simp [intOf]; omega)
  · have HD := hi0 (HR.out.done hij)
    go_wp2
    go_end0
    exact ⟨rfl, HD.out ▸ hoL, hbL⟩
theorem c1x : Tryz.prog.underlying 146 = some (.slice 5) := by kernel_rfl
theorem h1g : Tryz.prog.underlying 5 = some (.int .u8) := by kernel_rfl
theorem z0a : Tryz.prog.underlying 9 = some .string := by kernel_rfl
theorem z0b (p : OA) (n c : Nat) (N : Nat) (w : World) (hp : Rd w .u32 p (dig B32 N)) (hn : n = (dig B32 N).length) (hl : (dig B32 N).length ≤ 100000000) :
 Calls Tryz.prog 48 #[.slice p n c] w fun e w' => e = .returned (.string (a0d (a0t N))) ∧ Below w.heap.size w w' := by
 subst hn
 go_enter Tryz.func48, Tryz.ntmps48
 go_wp2
 go_loopg [0, 3] N (fun a av ov wr => ∃ (p q : OA) (c d : Nat) (D : List Nat), av = .slice p (dig B32 a).length c ∧ ov = .slice q D.length d ∧ (dig B32 a).length ≤ (dig B32 N).length ∧ Rd wr .u32 p (dig B32 a) ∧
     Own wr w.heap.size .u8 5 q d (D.map (· + 48)) ∧ Below w.heap.size w wr ∧ Hid (l0a N D a))
 case atStart => exact ⟨p, none, c, 0, [], rfl, rfl, Nat.le_refl _, hp, Own.nil _ _ _ _, Below.refl _ _, l0a.start N⟩
 case round =>
  obtain ⟨p, q, c, d, D, rfl, rfl, hla, hpa, hoq, hb, HR⟩ := hrel
  by_cases h0 : 0 < (dig B32 gk).length
  · have hpos : 0 < gk := by
     rcases Nat.eq_zero_or_pos gk with h | h
     · subst h; rw [a0c] at h0; simp at h0
     · exact h
    have HI := hi0 (HR.out.enter hpos)
    have hdiv := Nat.div_lt_self hpos (show 1 < 1000000000 by omega)
    have hlen := a0j a0a (Nat.le_of_lt hdiv)
    have hmod := Nat.mod_lt gk (show 0 < 1000000000 by omega)
    go_wp2_with (go_at_call 95; refine (v0t p _ c gk 1000000000 _ hpa rfl (by omega) (by omega) (by omega)).mono ?_; rintro e w1 ⟨p1, c1, rfl, ho1, hb1⟩)
    have hoq1 := hoq.past hb1
    have hb2 := hb.trans (hb1.mono hb.size)
    have hr1 := ho1.rd
    have hap : o0d q p1 (dig B32 (gk / 1000000000)) := fun h1 h2 => by
     have e1 := (hoq.blk_lt h2).2
     have e2 := (ho1.blk_lt (hr1.solid h1).1).1
     omega
    clear hoq hb hpa hb1 hpos h0 ho1
    generalize gk / 1000000000 = a1 at *
    obtain ⟨wo, rfl⟩ : ∃ wo : World, wo = wr := ⟨_, rfl⟩
    clear HR
    have hlenN : (dig B32 a1).length ≤ (dig B32 N).length := by omega
    clear hlen hla
    go_loopg [3, 4, 5] 9 (fun g ov rv iv wr => ∃ (i r : Nat) (q : OA) (d : Nat) (D : List Nat), iv = .int .i64 i ∧ rv = .int .u32 r ∧ ov = .slice q D.length d ∧ g + i = 9 ∧ r < 4294967296 ∧ Rd wr .u32 p1 (dig B32 a1) ∧ o0d q p1 (dig B32 a1) ∧
      Own wr w.heap.size .u8 5 q d (D.map (· + 48)) ∧ Below w.heap.size w wr ∧ Hid (s0f N D i r a1))
    case atStart => exact ⟨0, gk % 1000000000, q, d, D, rfl, rfl, rfl, rfl, by omega, hr1, hap, hoq1, hb2, HI⟩
    case round =>
     obtain ⟨i, r, q, d, D, rfl, rfl, rfl, hgi, hr, hp1, hap, hoq, hb, HI⟩ := hrel
     have ha : 0 < (dig B32 a1).length ↔ 0 < a1 := by have := a0f a0a a1; omega
     by_cases hi9 : i < 9
     · by_cases hc : 0 < r ∨ 0 < a1
       · have HS := hi0 (HI.out.step hi9 hc)
         have hsz := HI.out.size hc
         have HP := hi0 hap
         clear hap
         by_cases hr0 : 0 < r
         · clear hc ha
           go_wp2_with (first
             | (refine a0r rfl _ _ rfl m0q _ ?_ rfl ?_; omega; intro p2 w2 ho2 hb2 hz2 hp2)
             | (at_builtin; refine a0z rfl _ _ _ rfl m0q _ _ _ _ _ (hoq.past hb2) (by simp) _ _ _ _ ho2.rd rfl rfl rfl ?_ ?_ ?_; (simp; omega); (have := hb2.size; have := hb.size; omega); intro p3 c3 w3 ho3 hg3 hb3 hn3))
           have hb4 := hb.trans ((hb2.mono hb.size).trans hb3)
           have e4 : D.map (· + 48) ++ [((48 : Int) + (r : Int) % 10).toNat] = (D ++ [r % 10]).map (· + 48) := by
            rw [List.map_append, show ((48 : Int) + (r : Int) % 10).toNat = r % 10 + 48 by omega]; rfl
           rw [e4] at ho3
           have hp3 := (hp1.past hb2).appended hg3 HP.out
           have hap3 := HP.out.next (hp1.past hb2) hn3.2
           go_roundg (gk - 1)
           case measure => omega
           case rel => exact ⟨i + 1, r / 10, p3, c3, D ++ [r % 10], by go_num, by go_num, by simp, by omega, by omega, hp3, hap3, ho3, hb4, HS⟩
         · obtain rfl : r = 0 := by omega
           have ha1 : 0 < (dig B32 a1).length := ha.2 (by omega)
           clear hc ha hr0
           go_wp2_with (first
             | (refine a0r rfl _ _ rfl m0q _ ?_ rfl ?_; omega; intro p2 w2 ho2 hb2 hz2 hp2)
             | (at_builtin; refine a0z rfl _ _ _ rfl m0q _ _ _ _ _ (hoq.past hb2) (by simp) _ _ _ _ ho2.rd rfl rfl rfl ?_ ?_ ?_; (simp; omega); (have := hb2.size; have := hb.size; omega); intro p3 c3 w3 ho3 hg3 hb3 hn3))
           have hb4 := hb.trans ((hb2.mono hb.size).trans hb3)
           have e4 : D.map (· + 48) ++ [(48 : Int).toNat] = (D ++ [0 % 10]).map (· + 48) := by
            rw [List.map_append]; rfl
           rw [e4] at ho3
           have hp3 := (hp1.past hb2).appended hg3 HP.out
           have hap3 := HP.out.next (hp1.past hb2) hn3.2
           go_roundg (gk - 1)
           case measure => omega
           case rel => exact ⟨i + 1, 0 / 10, p3, c3, D ++ [0 % 10], by go_num, by go_num, by simp, by omega, by omega, hp3, hap3, ho3, hb4, HS⟩
       · have HL := hi0 (HI.out.leave (by omega) (fun h => hc h.2))
         obtain rfl : r = 0 := by omega
         obtain rfl : a1 = 0 := by omega
         rw [a0c] at *
         clear hc ha
         go_wp2
         go_roundg 0
         case measure => exact hdiv
         case rel => exact ⟨p1, q, c1, d, D, by rw [a0c]; rfl, rfl, by rw [a0c]; simp, by rw [a0c]; exact hp1, hoq, hb, HL⟩
     · have HL := hi0 (HI.out.leave (by omega) (fun h => hi9 h.1))
       clear ha
       go_wp2
       go_roundg a1
       case measure => exact hdiv
       case rel => exact ⟨p1, q, _, d, D, rfl, rfl, hlenN, hp1, hoq, hb, HL⟩
  · obtain rfl : gk = 0 := (a0f a0a gk).1 (by omega)
    rw [a0c] at hpa
    have HD := hi0 HR.out.done
    by_cases hD : D.length = 0
    · have hN : Hid (N = 0) := by
       have h1 := HD.out
       rw [List.eq_nil_of_length_eq_zero hD] at h1
       exact (q0v (by omega) N).1 h1.symm
      rw [hD]
      clear h0 hla
      rw [a0c]
      go_wp2
      go_ret
      refine ⟨?_, hb⟩
      rw [hN.out]
      rfl
    · have hN : Hid (a0t N = (D.map (· + 48)).reverse) := by
       show a0t N = _
       unfold a0t
       rw [if_neg, HD.out, List.map_reverse]
       intro e
       rw [e, a0c] at HD
       exact hD (by rw [HD.out]; rfl)
      have hDl : D.length ≤ 32 * (dig B32 N).length := by
       have := i1t N
       rwa [← HD.out] at this
      have hD1 : 0 < D.length := by omega
      have hD2 : ((D.length : Int) == 0) = false := bFn (by omega)
      clear h0 hla hD
      rw [a0c]
      go_wp2_with (first
        | (go_at_call 82; refine (y0z w.heap.size q _ d _ _ hoq (by simp) (by simp; omega) (by simp; omega)).mono ?_; rintro e w3 ⟨rfl, ho3, hb3⟩)
        | (refine x0p rfl _ _ _ (by rfl) c1x h1g z0a _ _ _ _ ho3.rd ?_ (by rfl) ?_; simp))
      go_ret
      exact ⟨by rw [hN.out]; rfl, hb.trans hb3⟩
end Go.Proofs.YtpgomglbaacmdaaGreatDoor
namespace Go.Slip
theorem l1g {n K : Nat} (h : n < 10 ^ (9 * K)) : (dig B32 n).length ≤ K := by
 rw [a0h a0a]
 refine Nat.lt_of_lt_of_le h ?_
 rw [Nat.pow_mul]
 exact Nat.pow_le_pow_left (by decide) K
theorem l1h {k K : Nat} (h : k < 13 * K) : (dig B32 (5 ^ k)).length ≤ K := by
 rw [a0h a0a]
 refine Nat.lt_of_lt_of_le (Nat.pow_lt_pow_right (show 1 < 5 by omega) h) ?_
 rw [Nat.pow_mul]
 exact Nat.pow_le_pow_left (by decide) K
structure z0c (R : Bool × Nat × Nat × Int) : Prop where
 d0 : 0 < R.2.2.1
 ln : (dig B32 R.2.1).length ≤ 1200
 ld : (dig B32 R.2.2.1).length ≤ 1200
 e : -20000 ≤ R.2.2.2 ∧ R.2.2.2 ≤ 20000
theorem h1h {q : Numl} (hd : ∀ x ∈ q.ds, isDg x = true) (hl : q.ds.length ≤ 800) (hp : -6000 ≤ q.pow ∧ q.pow ≤ 6000) : z0c (f0o q) := by
 obtain ⟨K, hK⟩ : ∃ K : Nat, K = 89 := ⟨_, rfl⟩
 obtain ⟨L, hL⟩ : ∃ L : Nat, L = 463 := ⟨_, rfl⟩
 have hS : (dig B32 (a0l q.ds)).length ≤ K := l1g (Nat.lt_of_lt_of_le (g0k _ fun j hj => by rw [a0s hj]; exact (d0d.1 (hd _ (List.getElem_mem hj))).2) (Nat.pow_le_pow_right (by omega) (by omega)))
 have hb : blen (a0l q.ds) ≤ 32 * K := Nat.le_trans (c0o _) (by omega)
 have hz : tz (a0l q.ds) ≤ 32 * K := by
  by_cases h : a0l q.ds = 0
  · rw [h, x0s]; omega
  · have := f0u (m := a0l q.ds) (by omega); omega
 have l1 : (dig B32 1).length ≤ 1 := (a0h a0a 1 1).2 (by decide)
 have l5 : ∀ k, k ≤ 6000 → (dig B32 (5 ^ k)).length ≤ L := fun k hk => l1h (by omega)
 unfold f0o
 by_cases h0 : a0l q.ds = 0
 · rw [if_pos h0]
   exact ⟨by show 0 < 1; omega, by show (dig B32 0).length ≤ _; rw [a0c]; exact Nat.zero_le _, by show (dig B32 1).length ≤ _; omega, by show (-20000 : Int) ≤ 0; omega, by show (0 : Int) ≤ 20000; omega⟩
 · rw [if_neg h0]
   have hmul := a0x a0a (a0l q.ds / 2 ^ tz (a0l q.ds)) (5 ^ q.pow.toNat)
   have hdv := a0j a0a (Nat.div_le_self (a0l q.ds) (2 ^ tz (a0l q.ds)))
   by_cases hp0 : 0 ≤ q.pow
   · rw [if_pos hp0]
     have := l5 q.pow.toNat (by omega)
     exact ⟨by show 0 < 1; omega, by show (dig B32 (_ * _)).length ≤ _; omega, by show (dig B32 1).length ≤ _; omega, by show _ ≤ (_ : Int) + _; omega, by show (_ : Int) + _ ≤ _; omega⟩
   · rw [if_neg hp0]
     have c1 := j0o (-q.pow).toNat (a0l q.ds / 2 ^ tz (a0l q.ds))
     have c2 := a0j a0a c1.1
     have := l5 (b0k (a0l q.ds / 2 ^ tz (a0l q.ds)) (-q.pow).toNat).2 (by omega)
     exact ⟨Nat.pow_pos (by omega), by show (dig B32 (b0k _ _).1).length ≤ _; omega, by show (dig B32 (5 ^ (b0k _ _).2)).length ≤ _; omega, by show _ ≤ (_ : Int) + _; omega, by show (_ : Int) + _ ≤ _; omega⟩
theorem h1i {m : Nat} (h : 0 < m) (g : Bool) (e : Int) (k : Nat) : decM (numP m e) (denP 1 e) k = numX (bare ⟨g, m, e⟩) k := by
 have hb : bare ⟨g, m, e⟩ = ⟨g, m / 2 ^ tz m, e + tz m⟩ := by unfold bare; rw [if_neg (Nat.ne_of_gt h)]
 obtain ⟨t1, t2⟩ := b0t m h
 rw [hb]
 unfold numX
 simp only
 have ho : 0 < m / 2 ^ tz m := Nat.pos_of_ne_zero fun h => by rw [h] at t2; cases t2
 refine f1j (j0r h e) (d0m (by omega) e) (j0r ho _) (d0m (by omega) _) ?_ k
 unfold numP denP
 have e1 : 2 ^ tz m * (2 ^ e.toNat * 2 ^ (-(e + tz m)).toNat) = 2 ^ (e + tz m).toNat * 2 ^ (-e).toNat := by
  rw [← Nat.pow_add, ← Nat.pow_add, ← Nat.pow_add]; congr 1; omega
 calc m * 2 ^ e.toNat * (1 * 2 ^ (-(e + tz m)).toNat) = (2 ^ tz m * (m / 2 ^ tz m)) * (2 ^ e.toNat * 2 ^ (-(e + tz m)).toNat) := by rw [t1]; grind
  _ = (m / 2 ^ tz m) * (2 ^ tz m * (2 ^ e.toNat * 2 ^ (-(e + tz m)).toNat)) := by grind
  _ = _ := by rw [e1]; grind
theorem p1s {f : Fm} {g : Bool} {d : Dc} (hc : d.c = 2) (k : Nat) : decM (numP (f.vl g d).d (wid f.g * (f.vl g d).pow)) (denP 1 (wid f.g * (f.vl g d).pow)) k = numX (f.vr g d).x k ∧ 0 < (f.vl g d).d ∧ (f.vr g d).x.m ≠ 0 := by
 have hs := a1u f g d
 have hm : d.m ≠ 0 := by
  intro h0
  unfold Dc.c at hc
  split at hc
  · omega
  · rename_i k; exact k ⟨hc, h0⟩
 have hx : (f.vr g d).x = bare ⟨g, d.m, wid f.g * d.p⟩ := by unfold Fm.vr; exact if_pos hc
 have hx0 : (f.vr g d).x.m ≠ 0 := by
  rw [hx]
  unfold bare
  rw [if_neg hm]
  have := (b0t d.m (by omega)).2
  exact fun h => by
   have h : d.m / 2 ^ tz d.m = 0 := h
   rw [h] at this; cases this
 have hd : 0 < (f.vl g d).d := by
  rcases Nat.eq_zero_or_pos (f.vl g d).d with h | h
  · rw [h] at hs
    exact absurd (by rw [← hs]; rfl) hx0
  · exact h
 exact ⟨by rw [← hs]; exact h1i hd _ _ k, hd, hx0⟩
theorem z0d {neg : Bool} {num den : Nat} {e : Int} {g : Gd} {way : Int} (hd : 0 < den) (G : e0j g) : (dig B32 (a0m neg num den e g way).d).length ≤ 16 := by
 unfold a0m
 by_cases h0 : num = 0
 · rw [if_pos h0]; simp [a0c]
 · rw [if_neg h0]
   have hK := i0s (num := num) (by omega) hd e (w := wid g) (D := g.digs.toNat) (b0f g).1 (by have := G.d1; omega)
   have h1 := j1t (neg := neg) (way := way) hd G hK
   have h2 : wid g * g.digs.toNat ≤ 480 := by
    have := Nat.mul_le_mul (b0f g).2 (show g.digs.toNat ≤ 120 by have := G.d2; omega)
    omega
   exact Nat.le_trans (a0j a0a (Nat.le_of_lt h1)) (i0a h2)
theorem t1c {neg : Bool} {num den : Nat} {e : Int} {g : Gd} {way : Int} (_ : 0 < den) (G : e0j g) (hok : okP (a0m neg num den e g way) g = true) : -17000 ≤ (a0m neg num den e g way).pow ∧ (a0m neg num den e g way).pow ≤ 17000 := by
 unfold a0m at *
 by_cases h0 : num = 0
 · rw [if_pos h0]; simp
 · rw [if_neg h0] at *
   generalize theK num den e (wid g) g.digs.toNat = K at *
   have hover : powP neg num den e (wid g) g.digs.toNat way (powK g K) ≤ g.hi := by
    unfold okP at hok
    have : (fitK neg num den e g way K).over = decide (g.hi < powP neg num den e (wid g) g.digs.toNat way (powK g K)) := rfl
    rw [this] at hok
    simp only [Bool.and_eq_true, Bool.not_eq_true', decide_eq_false_iff_not] at hok
    omega
   have hlow : g.lo ≤ powK g K := by
    unfold okP at hok
    have : (fitK neg num den e g way K).under = decide (K < g.lo) := rfl
    rw [this] at hok
    simp only [Bool.and_eq_true, Bool.or_eq_true, Bool.not_eq_true', decide_eq_false_iff_not] at hok
    unfold powK
    rcases hok.2 with h | h
    · rw [if_neg (fun k => h k.1)]; omega
    · by_cases hu : K < g.lo
      · rw [if_pos ⟨hu, h⟩]; omega
      · rw [if_neg (fun k => hu k.1)]; omega
   have h1 := G.l1
   have h2 := G.h2
   have hp : (fitK neg num den e g way K).pow = if digP neg num den e (wid g) g.digs.toNat way (powK g K) = 0 then 0 else powP neg num den e (wid g) g.digs.toNat way (powK g K) := rfl
   rw [hp]
   have h3 : powK g K ≤ powP neg num den e (wid g) g.digs.toNat way (powK g K) := by unfold powP; split <;> omega
   split
   · omega
   · omega
end Go.Slip
namespace Go.Slip
open Go.RowKit
theorem l1i {neg : Bool} {m : Nat} {e : Int} {g : Gd} {way : Int} (hm : 0 < m) (G : e0j g) (h : (a0m neg m 1 e g way).exact = true) : rv neg m 1 e g way = bare ⟨neg, m, e⟩ := by
 rw [f1n hm (by omega) G]
 unfold a0m at h
 rw [if_neg (by omega)] at h
 have hr : rP m 1 (e - wid g * powK g (theK m 1 e (wid g) g.digs.toNat)) = 0 := oTr h
 generalize powK g (theK m 1 e (wid g) g.digs.toNat) = k at *
 have hd : dUp neg m 1 e (wid g) way k = qP m 1 (e - wid g * k) := by unfold dUp upP; rw [hr]; simp
 rw [hd]
 unfold rP at hr
 have hq : qP m 1 (e - wid g * k) * denP 1 (e - wid g * k) = numP m (e - wid g * k) := by
  unfold qP
  exact Nat.div_mul_cancel (Nat.dvd_of_mod_eq_zero hr)
 generalize qP m 1 (e - wid g * k) = q at *
 unfold numP denP at hq
 rw [Nat.one_mul] at hq
 rcases Int.le_total (wid g * k) e with c | c
 · obtain ⟨n, hn⟩ : ∃ n : Nat, e = wid g * k + n := ⟨(e - wid g * k).toNat, by omega⟩
   rw [show (-(e - wid g * k)).toNat = 0 by omega, show (e - wid g * k).toNat = n by omega, Nat.pow_zero, Nat.mul_one] at hq
   rw [hq, hn, e0b]
 · obtain ⟨n, hn⟩ : ∃ n : Nat, (wid g : Int) * k = e + n := ⟨(wid g * k - e).toNat, by omega⟩
   rw [show (-(e - wid g * k)).toNat = n by omega, show (e - wid g * k).toNat = 0 by omega, Nat.pow_zero, Nat.mul_one] at hq
   rw [← hq, hn, e0b]
theorem c1y {s : Bool} {m : Nat} {e : Int} {g : Gd} {way : Int} (hm : 0 < m) (G : e0j g) : ((a0m s m 1 e g way).exact && okP (a0m s m 1 e g way) g) = a0p (bare ⟨s, m, e⟩) g := by
 cases hin : a0p (bare ⟨s, m, e⟩) g
 · cases hx : (a0m s m 1 e g way).exact
   · rfl
   · cases hk : okP (a0m s m 1 e g way) g
     · rfl
     · have := s1c (show 0 < 1 by omega) G hk
       rw [l1i hm G hx, hin] at this
       cases this
 · rw [v0l (show 0 < 1 by omega) G ((t0i (way := 5) G hin).1.trans (t0i (way := 4) G hin).1.symm) way, (t0i (way := way) G hin).2]
   rfl
theorem j0u {x : Dv} {k : Nat} (h0 : x.m ≠ 0) (_ : (dig B32 x.m).length ≤ 20) (hk : 1 ≤ k) :
 (numX x k).1.length = k ∧ (∀ y ∈ (numX x k).1, 48 ≤ y ∧ y ≤ 57) ∧ 0 < a0l (numX x k).1 ∧ 3 * ((numX x k).2 - 1) < blen x.m + x.e.toNat + 1 ∧ -(((-x.e).toNat : Int) + 1) < 3 * ((numX x k).2 + 1) := by
 have hN : 0 < numP x.m x.e := j0r (by omega) x.e
 have hD : 0 < denP 1 x.e := d0m (by omega) x.e
 obtain ⟨s1, s2, s3, s4, s5, _⟩ := p0c hN hD hk (s := (numX x k).1) (p := (numX x k).2) rfl
 have hP := (k0r hN hD).bd hD
 have bN : blen (numP x.m x.e) ≤ blen x.m + x.e.toNat := by
  refine (a0u _ (blen x.m + x.e.toNat)).2 ?_
  unfold numP
  have h1 := (a0u x.m _).1 (Nat.le_refl _)
  calc x.m * 2 ^ x.e.toNat < 2 ^ blen x.m * 2 ^ x.e.toNat := Nat.mul_lt_mul_of_pos_right h1 (Nat.pow_pos (by omega))
   _ = 2 ^ (blen x.m + x.e.toNat) := (Nat.pow_add _ _ _).symm
 have bD : blen (denP 1 x.e) ≤ (-x.e).toNat + 1 := by
  refine (a0u _ ((-x.e).toNat + 1)).2 ?_
  unfold denP
  rw [Nat.one_mul]
  exact Nat.pow_lt_pow_right (by omega) (by omega)
 have := c0q (k - 1)
 exact ⟨s1, s2, by omega, by omega, by omega⟩
theorem b1c {x : Dv} {k : Nat} (h0 : x.m ≠ 0) (hl : (dig B32 x.m).length ≤ 20) (he : -18000 ≤ x.e ∧ x.e ≤ 18000) (hk : 1 ≤ k) : -7000 ≤ (numX x k).2 ∧ (numX x k).2 ≤ 7000 := by
 have h := j0u h0 hl hk
 have hb := c0o x.m
 omega
theorem p1t {x : Dv} {g : Gd} {k : Nat} (hg : errG g = 0) (h0 : x.m ≠ 0) (hl : (dig B32 x.m).length ≤ 20) (hin : a0p x g = true) (hk : 1 ≤ k) : -5800 ≤ (numX x k).2 ∧ (numX x k).2 ≤ 5900 := by
 have h := j0u h0 hl hk
 have hb := c0o x.m
 obtain ⟨w1, w2, w3⟩ := j0p hg
 unfold a0p at hin
 rw [if_neg h0] at hin
 by_cases h1 : x.e < wid g * g.lo ∨ wid g * (g.hi + g.digs) < topD x
 · rw [if_pos h1] at hin; cases hin
 · have e : topD x = x.e + blen x.m := rfl
   rw [e, Int.mul_add] at h1
   omega
def n0n (p : Nat → Bool) : Nat → Nat → Nat
 | 0, k => k
 | n + 1, k => if p k then k else n0n p n (k + 1)
theorem p0o (p : Nat → Bool) : ∀ (n k : Nat), k ≤ n0n p n k ∧ (∀ j, k ≤ j → j < n0n p n k → p j = false) ∧ ∀ j, k ≤ j → j < k + n → p j = true → p (n0n p n k) = true ∧ n0n p n k ≤ j
 | 0, k => ⟨Nat.le_refl _, fun j h1 h2 => absurd h2 (by unfold n0n; omega), fun j h1 h2 => by omega⟩
 | n + 1, k => by
  obtain ⟨q1, q2, q3⟩ := p0o p n (k + 1)
  unfold n0n
  cases hp : p k
  · rw [if_neg (by simp)]
    refine ⟨by omega, fun j h1 h2 => ?_, fun j h1 h2 h3 => ?_⟩
    · rcases Nat.lt_or_ge k j with h | h
      · exact q2 j h h2
      · rw [show j = k by omega]; exact hp
    · refine q3 j ?_ (by omega) h3
      rcases Nat.lt_or_ge k j with h | h
      · exact h
      · rw [show j = k by omega, hp] at h3; cases h3
  · rw [if_pos rfl]
    exact ⟨Nat.le_refl _, fun j h1 h2 => by omega, fun j h1 _ _ => ⟨hp, h1⟩⟩
def f0f (f : Fm) (x : Dv) : Nat := n0n (okX f x) 30 1
theorem p0p {f : Fm} {x : Dv} (hG : errG f.g = 0) (hw : wid f.g * f.g.digs.toNat ≤ 64) (hb : Bare x) (hin : a0p x f.g = true) (h0 : x.m ≠ 0) :
 1 ≤ f0f f x ∧ f0f f x ≤ 21 ∧ okX f x (f0f f x) = true ∧ ∀ j, 1 ≤ j → j < f0f f x → okX f x j = false := by
 obtain ⟨q1, q2, q3⟩ := p0o (okX f x) 30 1
 have h21 : okX f x 21 = true := by
  unfold okX
  rw [k1f (b0o hG) hb hin h0 (k := 21) (Nat.lt_of_le_of_lt (Nat.pow_le_pow_right (by omega) hw) (by decide))]
  simp
 have h := q3 21 (by omega) (by omega) h21
 exact ⟨q1, h.2, h.1, q2⟩
theorem h1j {n : Int} (h : IsFm n) : wid (fmt n).g * (fmt n).g.digs.toNat ≤ 64 := by
 rcases l0u h with rfl | rfl | rfl | rfl | rfl | rfl | rfl | rfl <;> decide
end Go.Slip
namespace Go.Proofs.YtpgomglbaacmdaaGreatDoor
open Go.RowKit Go.Slip
theorem TabW.far {w : World} {b : Nat} {t : TypeId} {vs : Array Value} (h : TabW w) (hX : Bt w b t vs) (hne : (match vs[0]? with | some (.int .u8 _) => false | _ => true) = true) : ¬ (0 = b) := by
 intro e
 subst e
 have h1 := h.1 0 (by omega)
 rw [hX.bx.cell 0] at h1
 rw [h1] at hne
 cases hne
def famB (f : Fm) : Int := if f.fam = 1 then 65 else if f.fam = 2 then 66 else 67
abbrev uS (f : Fm) (n way k : Int) : List SV := [.v (.int .i64 n), .v (.int .i64 way), .v (.int .i64 f.g.rad), .v (.int .i64 f.g.digs), .v (.int .i64 f.g.lo), .v (.int .i64 f.g.hi), .v (.bool f.g.grad), .v (.int .u8 (famB f)), .v (.int .i64 k)]
theorem d0r (f : Fm) (n way a b c : Int) (u : Nat) (w : World) (U : Bt w u 181 #[.int .i64 n, .int .i64 way, .int .i64 f.g.rad, .int .i64 f.g.digs, .int .i64 f.g.lo, .int .i64 f.g.hi, .bool f.g.grad, .int .u8 (famB f), .int .i64 a]) (hc : bits .or .i64 a b = c) :
 Calls Tryz.prog 144 #[.pointer (some ⟨u, 0, none⟩), .int .i64 b] w fun e w' => e = .returned (.tuple #[]) ∧ Kp [u] w w' ∧ Bt w' u 181 #[.int .i64 n, .int .i64 way, .int .i64 f.g.rad, .int .i64 f.g.digs, .int .i64 f.g.lo, .int .i64 f.g.hi, .bool f.g.grad, .int .u8 (famB f), .int .i64 c] := by
 have I := Inv.startW w u 181 (uS f n way a) [] U True.intro True.intro
 refine a0g [.p 0 0, .v (.int .i64 b)] I Tryz.func144 ?_
 refine zbin I 9 _ (fun _ _ _ _ _ => n1d .i64 (a) (b) (c) (hc)) fun Al W I => zret I fun Al W I => ⟨rfl, I.bel, I.boxE 181 _⟩
theorem p1u (f : Fm) (n way a : Int) (u : Nat) (w : World) (U : Bt w u 181 #[.int .i64 n, .int .i64 way, .int .i64 f.g.rad, .int .i64 f.g.digs, .int .i64 f.g.lo, .int .i64 f.g.hi, .bool f.g.grad, .int .u8 (famB f), .int .i64 a]) :
 Calls Tryz.prog 178 #[.pointer (some ⟨u, 0, none⟩)] w fun e w' => e = .returned (.int .i64 ((wid f.g : Nat) : Int)) ∧ Below w.heap.size w w' := by
 by_cases h : f.g.rad = 16
 · have hw : wid f.g = 4 := by unfold wid; rw [if_pos h]
   rw [hw]
   have I := Inv.startR w [u] [⟨181, (uS f n way a), true⟩] [] ⟨U, True.intro⟩ True.intro
   refine a0g [.p 0 0] I Tryz.func178 ?_
   refine zb I 8 (f.g.rad == 16) (true) (beq_iff_eq.2 h) fun Al W I => zrb I
 · have hw : wid f.g = 1 := by unfold wid; rw [if_neg h]
   rw [hw]
   have I := Inv.startR w [u] [⟨181, (uS f n way a), true⟩] [] ⟨U, True.intro⟩ True.intro
   refine a0g [.p 0 0] I Tryz.func178 ?_
   refine zb I 8 (f.g.rad == 16) (false) (bFn h) fun Al W I => zrb I
theorem n1r (f : Fm) (n way a : Int) (g : Bool) (u : Nat) (w : World) (U : Bt w u 181 #[.int .i64 n, .int .i64 way, .int .i64 f.g.rad, .int .i64 f.g.digs, .int .i64 f.g.lo, .int .i64 f.g.hi, .bool f.g.grad, .int .u8 (famB f), .int .i64 a]) :
 Calls Tryz.prog 60 #[.pointer (some ⟨u, 0, none⟩), .bool g] w fun e w' => e = .returned (.agg #[.int .i64 1, .bool (g && decide (f.fam = 1)), .slice none 0 0, .int .i64 0]) ∧ Below w.heap.size w w' := by
 have hB : (famB f == 65) = decide (f.fam = 1) := by
  unfold famB
  by_cases h1 : f.fam = 1
  · simp [h1]
  · by_cases h2 : f.fam = 2 <;> simp [h1, h2]
 cases g
 · have I := Inv.startR w [u] [⟨181, (uS f n way a), true⟩] [] ⟨U, True.intro⟩ True.intro
   refine a0g [.p 0 0, .v (.bool false)] I Tryz.func60 ?_
   exact zrb I
 · generalize decide (f.fam = 1) = q at *
   have I := Inv.startR w [u] [⟨181, (uS f n way a), true⟩] [] ⟨U, True.intro⟩ True.intro
   refine a0g [.p 0 0, .v (.bool true)] I Tryz.func60 ?_
   refine zb I 11 ((famB f) == 65) (q) (hB) fun Al W I => zrb I
theorem l1j : Tryz.prog.underlying 243 = some (.map 5 3) := by kernel_rfl
def p0q : Array MapEntry := #[⟨.int .u8 65, .int .i64 4, 0⟩, ⟨.int .u8 66, .int .i64 1, 1⟩, ⟨.int .u8 67, .int .i64 5, 2⟩]
theorem h1k (f : Fm) (n way a : Int) (u : Nat) (w : World) (U : Bt w u 181 #[.int .i64 n, .int .i64 way, .int .i64 f.g.rad, .int .i64 f.g.digs, .int .i64 f.g.lo, .int .i64 f.g.hi, .bool f.g.grad, .int .u8 (famB f), .int .i64 a]) :
 Calls Tryz.prog 163 #[.pointer (some ⟨u, 0, none⟩)] w fun e w' => e = .returned (.agg #[.int .i64 (f.nothM.cls : Int), .bool false, .slice none 0 0, .int .i64 0]) ∧ Below w.heap.size w w' := by
 have hmm := @run_makeMap Tryz.prog
 go_enter Tryz.func163, Tryz.ntmps163
 have hs : (w.alloc (Obj.cells #[Value.int IntKind.i64 0, Value.bool false, Value.slice none 0 0, Value.int IntKind.i64 0] 39)).heap.size = w.heap.size + 1 := by show (w.heap.push _).size = _; exact Array.size_push ..
 have h1 := e0w (w := w.alloc (Obj.cells #[Value.int IntKind.i64 0, Value.bool false, Value.slice none 0 0, Value.int IntKind.i64 0] 39)) l1j Tryz.underlying5 #[] 0 65 (.int .i64 4) rfl
 have h2 := e0w (w := w.alloc (Obj.cells #[Value.int IntKind.i64 0, Value.bool false, Value.slice none 0 0, Value.int IntKind.i64 0] 39)) l1j Tryz.underlying5 #[⟨.int .u8 65, .int .i64 4, 0⟩] 1 66 (.int .i64 1) rfl
 have h3 := e0w (w := w.alloc (Obj.cells #[Value.int IntKind.i64 0, Value.bool false, Value.slice none 0 0, Value.int IntKind.i64 0] 39)) l1j Tryz.underlying5 #[⟨.int .u8 65, .int .i64 4, 0⟩, ⟨.int .u8 66, .int .i64 1, 1⟩] 2 67 (.int .i64 5) rfl
 rw [hs] at h1 h2 h3
 have U3 : ∀ es c, Bt ((w.alloc (Obj.cells #[Value.int IntKind.i64 0, Value.bool false, Value.slice none 0 0, Value.int IntKind.i64 0] 39)).alloc (Obj.map es c)) u 181 #[.int .i64 n, .int .i64 way, .int .i64 f.g.rad, .int .i64 f.g.digs, .int .i64 f.g.lo, .int .i64 f.g.hi, .bool f.g.grad, .int .u8 (famB f), .int .i64 a] := fun es c => U.past (((Below.refl _ _).alloc (Nat.le_refl _) _).alloc (by rw [hs]; omega) _)
 have hL := (U3 p0q 3).bx.c 7 (v := .int .u8 (famB f)) rfl
 have hM : ((w.alloc (Obj.cells #[Value.int IntKind.i64 0, Value.bool false, Value.slice none 0 0, Value.int IntKind.i64 0] 39)).alloc (Obj.map p0q 3)).heap[w.heap.size + 1]? = some (.map p0q 3) := by
  rw [← hs]; show ((World.alloc _ _).heap.push _)[_]? = _; exact Array.getElem?_push_size
 have hF : ∃ i, Instr.findNow (.int .u8) (.int .u8 (famB f)) p0q.toList 0 = some (some (i, .int .i64 (f.nothM.cls : Int))) := by
  unfold famB Fm.nothM
  by_cases h1 : f.fam = 1
  · rw [if_pos h1, if_pos h1]; exact ⟨0, rfl⟩
  · rw [if_neg h1, if_neg h1]
    by_cases h2 : f.fam = 2
    · rw [if_pos h2, if_pos h2]; exact ⟨1, rfl⟩
    · rw [if_neg h2, if_neg h2]; exact ⟨2, rfl⟩
 obtain ⟨i, hF⟩ := hF
 have hK := g0z l1j Tryz.underlying5 hM (famB f) hF
 simp only [p0q] at hL hK
 clear hM hF U3
 go_wp2_with fail
 have hC : Bt ((w.alloc (Obj.cells #[.int .i64 (f.nothM.cls : Int), .bool false, .slice none 0 0, .int .i64 0] 39)).alloc (Obj.map p0q 3)) w.heap.size 39 #[.int .i64 (f.nothM.cls : Int), .bool false, .slice none 0 0, .int .i64 0] := by
  show ((w.heap.push _).push _)[_]? = _
  rw [Array.getElem?_push_lt (by rw [Array.size_push]; omega)]
  simp
 simp only [p0q] at hC
 have ⟨b0, b1, b2, b3⟩ := hC.bx.e4
 refine bodyPost_ret (v := .agg #[.int .i64 (f.nothM.cls : Int), .bool false, .slice none 0 0, .int .i64 0]) (by simp [results, Tryz.results163, go_sem, b0, b1, b2, b3]) rfl ⟨rfl, ?_⟩
 refine ((Below.refl _ _).alloc (Nat.le_refl _) _).alloc ?_ _
 show _ ≤ (w.heap.push _).size
 rw [Array.size_push]; omega
def p1v (w : World) (v : Vl) (en : Ending) (w' : World) : Prop :=
 ∃ p c, en = .returned (.agg #[.int .i64 (v.cls : Int), .bool v.neg, .slice p (dig B32 v.d).length c, .int .i64 v.pow]) ∧ Own w' w.heap.size .u32 101 p c (dig B32 v.d) ∧ Below w.heap.size w w'
theorem h0n (f : Fm) (n way a : Int) (g : Bool) (u : Nat) (w : World) (U : Bt w u 181 #[.int .i64 n, .int .i64 way, .int .i64 f.g.rad, .int .i64 f.g.digs, .int .i64 f.g.lo, .int .i64 f.g.hi, .bool f.g.grad, .int .u8 (famB f), .int .i64 a]) (hd : 0 ≤ f.g.digs ∧ f.g.digs ≤ 1000) :
 Calls Tryz.prog 162 #[.pointer (some ⟨u, 0, none⟩), .bool g] w (p1v w ⟨2, g, 2 ^ (wid f.g * f.g.digs.toNat) - 1, f.g.hi⟩) := by
 have wp := b0f f.g
 have lu := U.lt
 have hmw : ((wid f.g * f.g.digs.toNat : Nat) : Int) = (wid f.g : Nat) * f.g.digs := by rw [Int.natCast_mul, Int.toNat_of_nonneg hd.1]
 have hmb : wid f.g * f.g.digs.toNat ≤ 4 * 1000 := Nat.mul_le_mul wp.2 (by omega)
 have l1 : (dig B32 1).length ≤ 1 := by rw [a0h a0a]; unfold B32; omega
 have l2 : (dig B32 (2 ^ (wid f.g * f.g.digs.toNat))).length ≤ 126 := b0b (n := wid f.g * f.g.digs.toNat + 1) (k := 126) (Nat.pow_lt_pow_right (a := 2) (by omega) (by omega)) (by omega)
 have h1 := Nat.one_le_two_pow (n := wid f.g * f.g.digs.toNat)
 have HW := fun W u hU => hi0 (p1u f n way a u W hU)
 generalize wid f.g * f.g.digs.toNat = m at *
 generalize hx : 2 ^ m = x at *
 have HX := hi0 hx
 clear hx
 have HM := hi0 hmw
 clear hmw
 have I := Inv.startR w [u] [⟨181, (uS f n way a), true⟩] [] ⟨U, True.intro⟩ True.intro
 refine a0g [.p 0 0, .v (.bool g)] I Tryz.func162 ?_
 refine zq I (fun Al W I => (HW W _ (I.box 0 181 _)).out) fun Al W I => zd [] I fun Al W I => zk [1, 2, 3, 4, 5, 6] I fun I => zki 7 I .i64 (((wid f.g : Nat) : Int) * f.g.digs) ((m : Int)) ((by rw [HM.out]; exact IntWalk.i64_in _ (by rw [← HM.out]; omega))) fun I => zo 0 I fun I => zqo I (fun Al W I => have hzW := I.bel.size; sof 1 1 rfl (by omega) W) fun Al W p9 c9 I => zo 8 I fun I => zqo I (fun Al W I => have hzW := I.bel.size; sshl p9 _ c9 1 m x _ W I.fa.1.rd rfl (by omega) (by omega) rfl (by rw [HX.out]; omega)) fun Al W p17 c17 I => zo 9 I fun I => zqo I (fun Al W I => have hzW := I.bel.size; sof 1 1 rfl (by omega) W) fun Al W p18 c18 I => zo 10 I fun I => zqo I (fun Al W I => have hzW := I.bel.size; ssub p17 p18 _ _ c17 c18 x 1 (x - 1) W I.fa.2.1.rd I.fa.1.rd rfl rfl (by omega) (by omega) rfl) fun Al W p19 c19 I => zk [11] I fun I => zret I fun Al W I => ⟨p19, c19, rfl, I.fa.1.mono (by omega), I.below⟩
def n0o (f : Fm) (n way c : Int) (u : Nat) (w : World) (v : Vl) (en : Ending) (w' : World) : Prop :=
 ∃ p k, en = .returned (.agg #[.int .i64 (v.cls : Int), .bool v.neg, .slice p (dig B32 v.d).length k, .int .i64 v.pow]) ∧ Own w' w.heap.size .u32 101 p k (dig B32 v.d) ∧ Kp [u] w w' ∧ Bt w' u 181 #[.int .i64 n, .int .i64 way, .int .i64 f.g.rad, .int .i64 f.g.digs, .int .i64 f.g.lo, .int .i64 f.g.hi, .bool f.g.grad, .int .u8 (famB f), .int .i64 c]
theorem l1k (f : Fm) (n way a c : Int) (g : Bool) (u : Nat) (w : World) (U : Bt w u 181 #[.int .i64 n, .int .i64 way, .int .i64 f.g.rad, .int .i64 f.g.digs, .int .i64 f.g.lo, .int .i64 f.g.hi, .bool f.g.grad, .int .u8 (famB f), .int .i64 a]) (hd : 0 ≤ f.g.digs ∧ f.g.digs ≤ 1000) (hc : bits .or .i64 a 5 = c) (h2 : f.fam = 2) :
 Calls Tryz.prog 145 #[.pointer (some ⟨u, 0, none⟩), .bool g] w (n0o f n way c u w ⟨2, g, 2 ^ (wid f.g * f.g.digs.toNat) - 1, f.g.hi⟩) := by
 have hF : famB f = 66 := by unfold famB; rw [if_neg (by omega), if_pos h2]
 have HR := fun W u hU => hi0 (d0r f n way a 5 c u W hU hc)
 have HG := fun W u hU => hi0 (h0n f n way c g u W hU hd)
 generalize 2 ^ (wid f.g * f.g.digs.toNat) - 1 = m at *
 have I := Inv.startW w u 181 (uS f n way a) [] U True.intro True.intro
 refine a0g [.p 0 0, .v (.bool g)] I Tryz.func145 ?_
 refine zge I 0 181 (fun Al W I => (HR W _ (I.box 0 181 _)).out) fun Al V Iv _ _ kz => ?_
 rintro _ W ⟨rfl, hO, hB⟩
 refine ⟨_, rfl, kz _ (uS f n way c) _ hO hB fun I => ?_⟩
 refine zb I 13 ((famB f) == 66) (true) (beq_iff_eq.2 hF) fun Al W I => zqo I (fun Al W I => (HG W _ (I.box 0 181 _)).out) fun Al W p16 c16 I => zret I fun Al W I => ⟨p16, c16, rfl, I.fa.1.mono (by omega), I.bel, I.boxE 181 _⟩
theorem e0a {f : Fm} {n way c : Int} {u k : Nat} {g : Bool} {w w' : World} {en : Ending} (h : en = .returned (.agg #[.int .i64 (k : Int), .bool g, .slice none 0 0, .int .i64 0])) (hk : Kp [u] w w') (hb : Bt w' u 181 #[.int .i64 n, .int .i64 way, .int .i64 f.g.rad, .int .i64 f.g.digs, .int .i64 f.g.lo, .int .i64 f.g.hi, .bool f.g.grad, .int .u8 (famB f), .int .i64 c]) : n0o f n way c u w ⟨k, g, 0, 0⟩ en w' := by
 refine ⟨none, 0, ?_, ?_, hk, hb⟩
 · rw [h, a0c]; rfl
 · show Own _ _ _ _ _ _ (dig B32 0); rw [a0c]; exact Own.nil _ _ _ _
theorem l1l (f : Fm) (n way a c : Int) (g : Bool) (u : Nat) (w : World) (U : Bt w u 181 #[.int .i64 n, .int .i64 way, .int .i64 f.g.rad, .int .i64 f.g.digs, .int .i64 f.g.lo, .int .i64 f.g.hi, .bool f.g.grad, .int .u8 (famB f), .int .i64 a]) (hc : bits .or .i64 a 5 = c) (h1 : f.fam ≠ 1) (h2 : f.fam ≠ 2) :
 Calls Tryz.prog 145 #[.pointer (some ⟨u, 0, none⟩), .bool g] w (n0o f n way c u w ⟨f.nothM.cls, false, 0, 0⟩) := by
 have hF : famB f = 67 := by unfold famB; rw [if_neg h1, if_neg h2]
 have HR := fun W u hU => hi0 (d0r f n way a 5 c u W hU hc)
 have HG := fun W u hU => hi0 (h1k f n way c u W hU)
 generalize f.nothM.cls = k at *
 have I := Inv.startW w u 181 (uS f n way a) [] U True.intro True.intro
 refine a0g [.p 0 0, .v (.bool g)] I Tryz.func145 ?_
 refine zge I 0 181 (fun Al W I => (HR W _ (I.box 0 181 _)).out) fun Al V Iv _ _ kz => ?_
 rintro _ W ⟨rfl, hO, hB⟩
 refine ⟨_, rfl, kz _ (uS f n way c) _ hO hB fun I => ?_⟩
 refine zb I 13 ((famB f) == 66) (false) (bFn (by rw [hF]; decide)) fun Al W I => zb I 18 ((famB f) == 67) (true) (beq_iff_eq.2 hF) fun Al W I => zq I (fun Al W I => (HG W _ (I.box 0 181 _)).out) fun Al W I => zret I fun Al W I => e0a rfl I.bel (I.boxE 181 _)
theorem n0d (g : Bool) (w : World) : Calls Tryz.prog 164 #[.bool g] w fun e w' => e = .returned (.agg #[.int .i64 3, .bool g, .slice none 0 0, .int .i64 0]) ∧ Below w.heap.size w w' := by
 have I := Inv.start w [] True.intro
 refine a0g [.v (.bool g)] I Tryz.func164 ?_
 exact zrb I
end Go.Proofs.YtpgomglbaacmdaaGreatDoor
namespace Go.Slip
def LL (bs : List Nat) (i : Nat) : List Nat := bs.take i ++ List.replicate (bs.length - i) 0
theorem p0r (bs : List Nat) (i : Nat) : (LL bs i).length = bs.length := by unfold LL; rw [List.length_append, List.length_take, List.length_replicate]; omega
theorem p1w (bs : List Nat) : LL bs 0 = List.replicate bs.length 0 := by unfold LL; rw [List.take_zero]; rfl
theorem t1d (bs : List Nat) : LL bs bs.length = bs := by unfold LL; rw [List.take_length, Nat.sub_self]; simp
theorem h1l (bs : List Nat) (i j : Nat) : dg (LL bs i) j = if j < i then dg bs j else 0 := by
 unfold LL
 by_cases h : j < (bs.take i).length
 · rw [u0y h]
   have h2 : j < i := by rw [List.length_take] at h; omega
   rw [f0g h2, if_pos h2]
 · rw [u0z (by omega), c0s]
   split
   · rw [b0n]
     rw [List.length_take] at h
     omega
   · rfl
theorem t1e (bs : List Nat) {i : Nat} (h : i < bs.length) : (LL bs i).set i (dg bs i) = LL bs (i + 1) := by
 refine r0m (by rw [List.length_set, p0r, p0r]) fun j hj => ?_
 rw [List.length_set, p0r] at hj
 by_cases e : i = j
 · subst e
   rw [b0p (by rw [p0r]; exact h), h1l, if_pos (by omega)]
 · rw [b0r e, h1l, h1l]
   by_cases k : j < i
   · rw [if_pos k, if_pos (by omega)]
   · rw [if_neg k, if_neg (by omega)]
theorem p1x (bs : List Nat) {i : Nat} (h0 : dg bs i = 0) : LL bs i = LL bs (i + 1) := by
 refine r0m (by rw [p0r, p0r]) fun j _ => ?_
 rw [h1l, h1l]
 by_cases e : j = i
 · subst e
   rw [if_neg (by omega), if_pos (by omega), h0]
 · by_cases k : j < i
   · rw [if_pos k, if_pos (by omega)]
   · rw [if_neg k, if_neg (by omega)]
theorem h1m (n : Nat) : IntKind.u8.wrap (n : Int) = ((n % 256 : Nat) : Int) := by
 simp [IntKind.wrap, IntKind.signed, IntKind.bits]
theorem h1n (n : Nat) : dg (dig B32 n) 0 = n % 4294967296 := by
 rcases Nat.eq_zero_or_pos n with h | h
 · subst h; rw [a0c]; rfl
 · rw [c0d a0a h]; rfl
end Go.Slip
namespace Go.Proofs.YtpgomglbaacmdaaGreatDoor
open Go.RowKit Go.Slip
theorem b1d (f : Fm) (g : Bool) (e x : Nat) (p : OA) (c : Nat) (w : World) (G : d0h f) (hp : Rd w .u32 p (dig B32 x)) (he : e < 2 ^ f.E) (hx : x < 2 ^ f.F) :
 Calls Tryz.prog 143 #[(fV f), .agg #[.bool g, .int .i64 (e : Int), .slice p (dig B32 x).length c]] w fun en w' => en = .returned (.string (a0d (f.str g e x))) ∧ Below w.heap.size w w' := by
 have z1 := G.sz
 have z2 := G.e2
 have z3 := G.f2
 have z4 := G.bits
 have hlt := n1g G (neg := g) he hx
 have hxl := b0b hx (k := 2) (by omega)
 have hT : g.toNat * 2 ^ f.E + e < 2 ^ 16 := by
  have h1 : 2 ^ f.E ≤ 2 ^ 15 := Nat.pow_le_pow_right (by omega) (by omega)
  cases g <;> simp <;> omega
 have hpw : 2 ^ f.E ≤ 2 ^ 15 := Nat.pow_le_pow_right (by omega) (by omega)
 have hsh := s0z (E := f.E) (by omega)
 have hor := c1f (x := e) (E := f.E) he (by omega)
 have h80 : f.pat g e x < 2 ^ 80 := Nat.lt_of_lt_of_le hlt (Nat.pow_le_pow_right (by omega) (by omega))
 unfold Fm.str
 have hpe : f.pat g e x = (g.toNat * 2 ^ f.E + e) * 2 ^ f.F + x := rfl
 have hord := fun (W : World) (base : Nat) (p : OA) (c : Nat) (xs : List Nat) h1 h2 => g1g f base p f.size c xs W G h1 h2.symm h2
 generalize hNN : f.pat g e x = NN at *
 have hbl : (e0k NN f.size).length = f.size := e0f _ _
 have hdg := fun i h => v0q f.size NN i h
 have hbs := fun i h => t1e (e0k NN f.size) (i := i) h
 have hbz := fun i h => p1x (e0k NN f.size) (i := i) h
 have hball := t1d (e0k NN f.size)
 have hb0 := p1w (e0k NN f.size)
 have hLl := p0r (e0k NN f.size)
 rw [hbl] at hball hb0
 generalize e0k NN f.size = bs at *
 generalize h2E : 2 ^ f.E = P at *
 have hNl := b0b h80 (k := 3) (by omega)
 have hTl : (dig B32 ((g.toNat * P + e) * 2 ^ f.F)).length ≤ 3 := b0b (n := 80) (by omega) (by omega)
 have hQl : ∀ N, (dig B32 (NN / 2 ^ N)).length ≤ 3 := fun N => b0b (n := 80) (Nat.lt_of_le_of_lt (Nat.div_le_self _ _) h80) (by omega)
 have HSH := hi0 hsh
 have HOR := hi0 hor
 have HPE := hi0 hpe
 have HB0 := hi0 hb0
 clear hsh hor hpe hb0 hlt h80 hNN h2E
 let aA : Box := ⟨87, [.v (.int .i64 (f.size : Int)), .v (.int .i64 (f.E : Int)), .v (.int .i64 (f.F : Int)), .v (.int .i64 f.g.rad), .v (.int .i64 f.g.digs), .v (.int .i64 f.g.lo), .v (.int .i64 f.g.hi), .v (.bool f.g.grad), .v (.bool f.hid), .v (.bool f.inf), .v (.bool f.res), .v (.func (.func (ordF f)) #[] #[])], false⟩
 let aB : Box := ⟨140, [.v (.bool g), .v (.int .i64 (e : Int)), .v (.slice p (dig B32 x).length c)], false⟩
 let aC : SV := .v ((fV f))
 let aD : SV := .v (.agg #[.bool g, .int .i64 (e : Int), .slice p (dig B32 x).length c])
 have I := Inv.start w [rdF .u32 p (dig B32 x)] ⟨hp, True.intro⟩
 refine a0g [.v ((fV f)), .v (.agg #[.bool g, .int .i64 (e : Int), .slice p (dig B32 x).length c])] I Tryz.func143 ?_
 rcases bTF (g) with f13 | f13
 · refine zb I 13 (g) (true) (f13) fun Al W I => zbin I 17 _ (fun _ _ _ _ _ => o0t .i64 (1) .i64 (f.E : Int) ((P : Int)) (by omega) ((HSH.out))) fun Al W I => zbin I 18 _ (fun _ _ _ _ _ => n1d .i64 (e : Int) ((P : Int)) (((P + e : Nat) : Int)) ((HOR.out))) fun Al W I => zd [] I fun Al W I => zk [0, 2, 3, 5, 6] I fun I => zo 1 I fun I => zg I (fun Al W I => have hzW := I.bel.size; sof ((P + e : Nat) : Int) (g.toNat * P + e) (by rw [f13, Bool.toNat_true, Nat.one_mul]) (by omega) W) fun Al V Iv _ hB _ kz => ?_
   rintro _ W ⟨p20, c20, rfl, o20, hb⟩
   refine ⟨_, rfl, kz _ _ hb fun I => ?_⟩
   have I := I.own o20
   refine zo 4 I fun I => zg I (fun Al W I => have hzW := I.bel.size; sshl p20 _ c20 (g.toNat * P + e) f.F ((g.toNat * P + e) * 2 ^ f.F) _ W I.fa.1.rd rfl (by have := b0b hT (k := 1) (by omega); omega) (by omega) rfl rfl) fun Al V Iv _ hB _ kz => ?_
   rintro _ W ⟨p23, c23, rfl, o23, hb⟩
   refine ⟨_, rfl, kz _ _ hb fun I => ?_⟩
   have I := I.own o23
   refine zo 7 I fun I => zg I (fun Al W I => have hzW := I.bel.size; sadd p23 p _ _ c23 c ((g.toNat * P + e) * 2 ^ f.F) x NN W I.fa.1.rd I.fa.2.2.1 rfl rfl (by omega) (by omega) HPE.out.symm) fun Al V Iv _ hB _ kz => ?_
   rintro _ W ⟨p26, c26, rfl, o26, hb⟩
   refine ⟨_, rfl, kz _ _ hb fun I => ?_⟩
   have I := I.own o26
   refine zk [8] I fun I => zmk I 29 k0t f.size (vB (LL bs 0)) (by omega) (by rw [HB0.out]; exact n1k _) fun Al W p29 c29 I => g0e I (fun gk fr bx gs => ∃ (U900 : Nat → Value) (i : Nat) (L : List Nat), fr = (aC :: aD :: .p 0 0 :: .p 1 0 :: .v (Go.Value.string (ByteArray.mk #[])) :: .v (vI ((P + e : Nat) : Int)) :: .v (vS (dig B32 NN) p26 c26) :: .v (.slice p29 f.size c29) :: sw U900 8 5 (.v (.bool true) :: sw U900 14 17 (.v (vI (f.size : Int)) :: .v (vI (i : Int)) :: sw U900 33 27 [])) : List SV) ∧ bx = [aA, aB] ∧ gs = [i0j w.heap.size 5 p29 c29 (vB L), ownF w.heap.size .u32 101 p26 c26 (dig B32 NN)] ∧ (L = LL bs i) ∧ (gk + i = f.size)) f.size (fun Al W U I => ⟨_, ⟨U, 0, LL bs 0, rfl, rfl, rfl, rfl, (by omega)⟩, I.pick [0, 1]⟩) ?_
   rintro J0 gk0 _ _ _ ⟨U900, i, L, rfl, rfl, rfl, hL, hgk⟩ hJ0 Al W I
   rcases bTF (decide ((i : Int) < (f.size : Int))) with f33 | f33
   · refine zb I 33 (decide ((i : Int) < (f.size : Int))) (true) (f33) fun Al W I => zi I 38 .i64 ((f.size : Int) - 1) (((f.size - 1 : Nat) : Int)) ((by rw [show ((f.size : Int) - 1) = ((f.size - 1 : Nat) : Int) by omega]; exact iwo)) fun Al W I => zi I 40 .i64 (((f.size - 1 : Nat) : Int) - (i : Int)) (((f.size - 1 - i : Nat) : Int)) ((by rw [show (((f.size - 1 : Nat) : Int) - (i : Int)) = ((f.size - 1 - i : Nat) : Int) by have := oTr f33; omega]; exact iwo)) fun Al W I => zi I 41 .i64 ((8 : Int) * ((f.size - 1 - i : Nat) : Int)) (((8 * (f.size - 1 - i) : Nat) : Int)) ((by rw [show ((8 : Int) * ((f.size - 1 - i : Nat) : Int)) = ((8 * (f.size - 1 - i) : Nat) : Int) by omega]; exact iwo)) fun Al W I => zqo I (fun Al W I => have hzW := I.bel.size; sshr p26 _ c26 NN (8 * (f.size - 1 - i)) (NN / 2 ^ (8 * (f.size - 1 - i))) _ W I.fa.2.1.rd rfl (by have := I.fa.2.1.le_cap; omega) (by omega) (by omega) rfl rfl) fun Al W p42 c42 I => ?_
     have hi := oTr f33
     have hdi := hdg i (by omega)
     have hq0 := a0f a0a (NN / 2 ^ (8 * (f.size - 1 - i)))
     have hLf : L.length = f.size := by rw [hL, hLl, hbl]
     rcases bTF (decide ((((dig B32 (NN / 2 ^ (8 * (f.size - 1 - i)))).length : Nat) : Int) > 0)) with f45 | f45
     · refine zb I 45 (decide ((((dig B32 (NN / 2 ^ (8 * (f.size - 1 - i)))).length : Nat) : Int) > 0)) (true) (f45) fun Al W I => zx I 49 (fun _ => .pointer (some (at_ p42 0))) (fun Al W I => f0n (c := c42) (m := 0) g1y I.fa.1.rd.solid (by have := oTr f45; omega)) fun Al W I => zx I 50 (fun _ => .int .u32 ((dg (dig B32 (NN / 2 ^ (8 * (f.size - 1 - i)))) 0 : Nat) : Int)) (fun Al W I => p0j I.fa.1.rd k1p (by have := oTr f45; omega)) fun Al W I => zi I 51 .u8 ((dg (dig B32 (NN / 2 ^ (8 * (f.size - 1 - i)))) 0 : Nat) : Int) (((dg bs i : Nat) : Int)) ((by rw [h1m, h1n, hdi]; congr 1; exact Nat.mod_mod_of_dvd _ (by decide))) fun Al W I => zx I 52 (fun _ => .pointer (some (at_ p29 i))) (fun Al W I => f0n (c := c29) k0t (by have h := I.fa.2.1.rd.solid; rw [r0o, hLf] at h; exact h) (by omega)) fun Al W I => ?_
       have I := I.pick [1, 0, 2]
       refine zput I [1] k0t i (.int .u8 ((dg bs i : Nat) : Int)) (by rw [r0o, hLf]; omega) (by rw [n1l, hL, hbs i (by omega)]) (us := vB (LL bs (i + 1))) (fun Al W I h9 => ⟨I.fa.1.apart I.fa.2.2.1 (by kernel_rfl) h9, True.intro⟩) fun Al W I => zi I 53 .i64 ((i : Int) + 1) (((i + 1 : Nat) : Int)) ((by rw [show ((i : Int) + 1) = ((i + 1 : Nat) : Int) by omega]; exact iwo)) fun Al W I => a0i I J0 fun Al W U I => hJ0 (gk0 - 1) _ _ _ _ _ ((by omega)) ⟨U, i + 1, LL bs (i + 1), rfl, rfl, rfl, rfl, (by omega)⟩ (I.pick [0, 1])
     refine zb I 45 (decide ((((dig B32 (NN / 2 ^ (8 * (f.size - 1 - i)))).length : Nat) : Int) > 0)) (false) (f45) fun Al W I => zi I 53 .i64 ((i : Int) + 1) (((i + 1 : Nat) : Int)) ((by rw [show ((i : Int) + 1) = ((i + 1 : Nat) : Int) by omega]; exact iwo)) fun Al W I => a0i I J0 fun Al W U I => hJ0 (gk0 - 1) _ _ _ _ _ ((by omega)) ⟨U, i + 1, L, rfl, rfl, rfl, (by rw [hL]; exact hbz i (by rw [hdi, hq0.1 (by have := oFa f45; omega)])), (by omega)⟩ (I.pick [1, 2])
   refine zb I 33 (decide ((i : Int) < (f.size : Int))) (false) (f33) fun Al W I => ?_
   have hLb : L = bs := by rw [hL, show i = f.size by have := oFa f33; omega, hball]
   have hps : p29.isSome = true := (I.fa.1.rd.solid (by rw [r0o, hLb, hbl]; omega)).1
   refine zsp (g := wrF w.heap.size .u8 p29 (ordL f.ord bs)) I [] (blk p29) (g1f f) (fun Al W I => hord W w.heap.size p29 c29 bs (by rw [← hLb]; exact (n1m I.fa.1).wr) hbl) (fun Al W I => ⟨⟨hps, rfl⟩, (I.fa.1.blk_lt hps).1, True.intro⟩) (fun _ h => ⟨hps, h.2⟩) fun Al W I => zx I 59 (fun _ => .string (a0d (ordL f.ord bs))) (fun Al W I => n1i (n := f.size) (c := c29) g1p p1m uStr I.fa.1.rd (by rw [c0b, hbl])) fun Al W I => zrb I
 refine zb I 13 (g) (false) (f13) fun Al W I => zd [] I fun Al W I => zk [0, 2, 3, 5, 6] I fun I => zo 1 I fun I => zg I (fun Al W I => have hzW := I.bel.size; sof (e : Int) (g.toNat * P + e) (by rw [f13, Bool.toNat_false, Nat.zero_mul, Nat.zero_add]) (by omega) W) fun Al V Iv _ hB _ kz => ?_
 rintro _ W ⟨p20, c20, rfl, o20, hb⟩
 refine ⟨_, rfl, kz _ _ hb fun I => ?_⟩
 have I := I.own o20
 refine zo 4 I fun I => zg I (fun Al W I => have hzW := I.bel.size; sshl p20 _ c20 (g.toNat * P + e) f.F ((g.toNat * P + e) * 2 ^ f.F) _ W I.fa.1.rd rfl (by have := b0b hT (k := 1) (by omega); omega) (by omega) rfl rfl) fun Al V Iv _ hB _ kz => ?_
 rintro _ W ⟨p23, c23, rfl, o23, hb⟩
 refine ⟨_, rfl, kz _ _ hb fun I => ?_⟩
 have I := I.own o23
 refine zo 7 I fun I => zg I (fun Al W I => have hzW := I.bel.size; sadd p23 p _ _ c23 c ((g.toNat * P + e) * 2 ^ f.F) x NN W I.fa.1.rd I.fa.2.2.1 rfl rfl (by omega) (by omega) HPE.out.symm) fun Al V Iv _ hB _ kz => ?_
 rintro _ W ⟨p26, c26, rfl, o26, hb⟩
 refine ⟨_, rfl, kz _ _ hb fun I => ?_⟩
 have I := I.own o26
 refine zk [8] I fun I => zmk I 29 k0t f.size (vB (LL bs 0)) (by omega) (by rw [HB0.out]; exact n1k _) fun Al W p29 c29 I => g0e I (fun gk fr bx gs => ∃ (U900 : Nat → Value) (i : Nat) (L : List Nat), fr = (aC :: aD :: .p 0 0 :: .p 1 0 :: .v (Go.Value.string (ByteArray.mk #[])) :: .v (vI (e : Int)) :: .v (vS (dig B32 NN) p26 c26) :: .v (.slice p29 f.size c29) :: sw U900 8 5 (.v (.bool false) :: sw U900 14 17 (.v (vI (f.size : Int)) :: .v (vI (i : Int)) :: sw U900 33 27 [])) : List SV) ∧ bx = [aA, aB] ∧ gs = [i0j w.heap.size 5 p29 c29 (vB L), ownF w.heap.size .u32 101 p26 c26 (dig B32 NN)] ∧ (L = LL bs i) ∧ (gk + i = f.size)) f.size (fun Al W U I => ⟨_, ⟨U, 0, LL bs 0, rfl, rfl, rfl, rfl, (by omega)⟩, I.pick [0, 1]⟩) ?_
 rintro J0 gk0 _ _ _ ⟨U900, i, L, rfl, rfl, rfl, hL, hgk⟩ hJ0 Al W I
 rcases bTF (decide ((i : Int) < (f.size : Int))) with f33 | f33
 · refine zb I 33 (decide ((i : Int) < (f.size : Int))) (true) (f33) fun Al W I => zi I 38 .i64 ((f.size : Int) - 1) (((f.size - 1 : Nat) : Int)) ((by rw [show ((f.size : Int) - 1) = ((f.size - 1 : Nat) : Int) by omega]; exact iwo)) fun Al W I => zi I 40 .i64 (((f.size - 1 : Nat) : Int) - (i : Int)) (((f.size - 1 - i : Nat) : Int)) ((by rw [show (((f.size - 1 : Nat) : Int) - (i : Int)) = ((f.size - 1 - i : Nat) : Int) by have := oTr f33; omega]; exact iwo)) fun Al W I => zi I 41 .i64 ((8 : Int) * ((f.size - 1 - i : Nat) : Int)) (((8 * (f.size - 1 - i) : Nat) : Int)) ((by rw [show ((8 : Int) * ((f.size - 1 - i : Nat) : Int)) = ((8 * (f.size - 1 - i) : Nat) : Int) by omega]; exact iwo)) fun Al W I => zqo I (fun Al W I => have hzW := I.bel.size; sshr p26 _ c26 NN (8 * (f.size - 1 - i)) (NN / 2 ^ (8 * (f.size - 1 - i))) _ W I.fa.2.1.rd rfl (by have := I.fa.2.1.le_cap; omega) (by omega) (by omega) rfl rfl) fun Al W p42 c42 I => ?_
   have hi := oTr f33
   have hdi := hdg i (by omega)
   have hq0 := a0f a0a (NN / 2 ^ (8 * (f.size - 1 - i)))
   have hLf : L.length = f.size := by rw [hL, hLl, hbl]
   rcases bTF (decide ((((dig B32 (NN / 2 ^ (8 * (f.size - 1 - i)))).length : Nat) : Int) > 0)) with f45 | f45
   · refine zb I 45 (decide ((((dig B32 (NN / 2 ^ (8 * (f.size - 1 - i)))).length : Nat) : Int) > 0)) (true) (f45) fun Al W I => zx I 49 (fun _ => .pointer (some (at_ p42 0))) (fun Al W I => f0n (c := c42) (m := 0) g1y I.fa.1.rd.solid (by have := oTr f45; omega)) fun Al W I => zx I 50 (fun _ => .int .u32 ((dg (dig B32 (NN / 2 ^ (8 * (f.size - 1 - i)))) 0 : Nat) : Int)) (fun Al W I => p0j I.fa.1.rd k1p (by have := oTr f45; omega)) fun Al W I => zi I 51 .u8 ((dg (dig B32 (NN / 2 ^ (8 * (f.size - 1 - i)))) 0 : Nat) : Int) (((dg bs i : Nat) : Int)) ((by rw [h1m, h1n, hdi]; congr 1; exact Nat.mod_mod_of_dvd _ (by decide))) fun Al W I => zx I 52 (fun _ => .pointer (some (at_ p29 i))) (fun Al W I => f0n (c := c29) k0t (by have h := I.fa.2.1.rd.solid; rw [r0o, hLf] at h; exact h) (by omega)) fun Al W I => ?_
     have I := I.pick [1, 0, 2]
     refine zput I [1] k0t i (.int .u8 ((dg bs i : Nat) : Int)) (by rw [r0o, hLf]; omega) (by rw [n1l, hL, hbs i (by omega)]) (us := vB (LL bs (i + 1))) (fun Al W I h9 => ⟨I.fa.1.apart I.fa.2.2.1 (by kernel_rfl) h9, True.intro⟩) fun Al W I => zi I 53 .i64 ((i : Int) + 1) (((i + 1 : Nat) : Int)) ((by rw [show ((i : Int) + 1) = ((i + 1 : Nat) : Int) by omega]; exact iwo)) fun Al W I => a0i I J0 fun Al W U I => hJ0 (gk0 - 1) _ _ _ _ _ ((by omega)) ⟨U, i + 1, LL bs (i + 1), rfl, rfl, rfl, rfl, (by omega)⟩ (I.pick [0, 1])
   refine zb I 45 (decide ((((dig B32 (NN / 2 ^ (8 * (f.size - 1 - i)))).length : Nat) : Int) > 0)) (false) (f45) fun Al W I => zi I 53 .i64 ((i : Int) + 1) (((i + 1 : Nat) : Int)) ((by rw [show ((i : Int) + 1) = ((i + 1 : Nat) : Int) by omega]; exact iwo)) fun Al W I => a0i I J0 fun Al W U I => hJ0 (gk0 - 1) _ _ _ _ _ ((by omega)) ⟨U, i + 1, L, rfl, rfl, rfl, (by rw [hL]; exact hbz i (by rw [hdi, hq0.1 (by have := oFa f45; omega)])), (by omega)⟩ (I.pick [1, 2])
 refine zb I 33 (decide ((i : Int) < (f.size : Int))) (false) (f33) fun Al W I => ?_
 have hLb : L = bs := by rw [hL, show i = f.size by have := oFa f33; omega, hball]
 have hps : p29.isSome = true := (I.fa.1.rd.solid (by rw [r0o, hLb, hbl]; omega)).1
 refine zsp (g := wrF w.heap.size .u8 p29 (ordL f.ord bs)) I [] (blk p29) (g1f f) (fun Al W I => hord W w.heap.size p29 c29 bs (by rw [← hLb]; exact (n1m I.fa.1).wr) hbl) (fun Al W I => ⟨⟨hps, rfl⟩, (I.fa.1.blk_lt hps).1, True.intro⟩) (fun _ h => ⟨hps, h.2⟩) fun Al W I => zx I 59 (fun _ => .string (a0d (ordL f.ord bs))) (fun Al W I => n1i (n := f.size) (c := c29) g1p p1m uStr I.fa.1.rd (by rw [c0b, hbl])) fun Al W I => zrb I
theorem _root_.Go.Slip.Bx.b3 {w : World} {b : Nat} {v0 v1 v2 : Value} (h : Bx w b #[v0, v1, v2]) : Box3 w b v0 v1 v2 :=
 ⟨h.e3.1, h.e3.2.1, h.e3.2.2, h.f 0, h.f 1, h.f 2, h.lt⟩
structure Pin where
 g : Bool
 p : OA
 c : Nat
 xs : List Nat
 k : Int
 x : Bool
 o : Bool
 u : Bool
structure InP (w : World) (a : Pin) : Prop where
 rd : Rd w .u32 a.p a.xs
 cap : a.xs.length ≤ a.c
 len : a.xs.length ≤ 9223372036854775807
 lt : ∀ x ∈ a.xs, x < B32
theorem InP.past {w w' : World} {a : Pin} (h : InP w a) (hb : Below w.heap.size w w') : InP w' a := ⟨h.rd.past hb, h.cap, h.len, h.lt⟩
theorem c1z (g : Bool) (p : OA) (n c : Nat) (e : Int) (w : World) :
 Calls Tryz.prog 158 #[.agg #[.bool g, .slice p n c, .int .i64 e]] w fun en w' => ∃ q d, en = .returned (.agg #[.bool g, .slice p n c, .slice q (dig B32 1).length d, .int .i64 e]) ∧ Own w' w.heap.size .u32 101 q d (dig B32 1) ∧ Below w.heap.size w w' := by
 go_enter Tryz.func158, Tryz.ntmps158
 go_wp2_with fail
 refine o1b (fun W1 hb1 hz1 A R => ?_)
 have hs1 := hb1
 have hzd : W1.drew.heap.size = W1.heap.size := rfl
 have HZD := hi0 hzd
 clear hzd
 go_region_held3 (fun w' => w'.cell? ⟨w.heap.size, 0, none⟩ = some (.bool g) ∧ w'.cell? ⟨w.heap.size, 1, none⟩ = some (.slice p n c) ∧ w'.cell? ⟨w.heap.size, 2, none⟩ = some (.int .i64 e))
  (first
    | with_reducible exact A.e3
    | with_reducible exact A.drew.e3
    | with_reducible exact (A.drew.past hbx).e3
    | with_reducible exact ((A.drew.past hbx).only (r1m _ _ _ _ _ _) (by omega)).e3)
  (first
    | (go_at_call 38; ((with_reducible refine (y0r _).mono ?_)); rintro ex wx ⟨px, cx, rfl, hox, hbx⟩; (have RR := R.drew.past hbx); obtain ⟨R_0, R_1, R_2, R_3⟩ := RR.e4; (have R_f0 := RR.f 0); (have R_f1 := RR.f 1); (have R_f2 := RR.f 2); (have R_f3 := RR.f 3)))
 all_goals (go_wp2_with fail)
 refine bodyPost_ret (v := .agg #[.bool g, .slice p n c, .slice px (dig B32 1).length cx, .int .i64 e]) (by simp [results, Tryz.results158, go_sem, R_0, R_1, R_2, R_3]) rfl ?_
 have hzd := HZD.out
 have hO := r1m wx (w.heap.size + 1) (.bool g) (.slice p n c) (.slice px (dig B32 1).length cx) (.int .i64 e)
 have hz := hs1.size
 exact ⟨px, cx, rfl, (hox.only hO (fun h => by have := (hox.blk_lt h).1; omega)).mono (by omega), (hs1.drew.trans (hbx.mono hz)).trans (hO.below (by omega))⟩
theorem r0t (s : Bool) (p : OA) (c : Nat) (e : Int) (m : Nat) (g : Gd) (w : World) (hp : Rd w .u32 p (dig B32 m)) (hl : (dig B32 m).length ≤ 100000) (he : -1000000 ≤ e ∧ e ≤ 1000000) (G : e0j g) :
 Calls Tryz.prog 140 #[.agg #[.bool s, .slice p (dig B32 m).length c, .int .i64 e], .agg #[.int .i64 g.rad, .int .i64 g.digs, .int .i64 g.lo, .int .i64 g.hi, .bool g.grad]] w fun en w' => en = .returned (.bool (i0u ⟨s, m, e⟩ g)) ∧ Below w.heap.size w w' := by
 by_cases h0 : m = 0
 · have hk : i0u ⟨s, m, e⟩ g = true := by unfold i0u; rw [if_pos h0]
   have HS := hi0 (show o0i ⟨s, m, e⟩ = 0 by unfold o0i; rw [if_pos h0])
   rw [hk]
   clear hk h0
   go_enter Tryz.func140, Tryz.ntmps140
   go_wp2_with fail
   refine h0f (fun W1 hb1 hz1 A B => ?_)
   have hs1 := hb1
   ((with_reducible refine (v0z s p _ c e m _ rfl).mono ?_))
   rintro e2 w2 ⟨rfl, hb2⟩
   rw [HS.out]
   go_wp2
   go_ret
   exact ⟨rfl, hs1.trans (hb2.mono hs1.size)⟩
 · have hsg := g1k (g := s) (e := e) (show 0 < m by omega)
   have wp := b0f g
   have hd1 := G.d1
   have hK := t0c (show 0 < m by omega) e (w := wid g) (D := g.digs.toNat) wp.1 (by omega)
   have hl1 : (dig B32 1).length ≤ 1 := by rw [a0h a0a]; unfold B32; omega
   have HF := fun W q d (h1 : Rd W .u32 p (dig B32 m)) (h2 : Rd W .u32 q (dig B32 1)) => hi0 (t0y s p q c d m 1 e g 3 _ W h1 h2 hl (by omega) (by omega) (by omega) he G (by omega) (by omega) hK)
   have hkk : i0u ⟨s, m, e⟩ g = ((fitK s m 1 e g 3 ((e + blen m - 1) / wid g - g.digs.toNat + 1)).exact && !(fitK s m 1 e g 3 ((e + blen m - 1) / wid g - g.digs.toNat + 1)).over && (!(fitK s m 1 e g 3 ((e + blen m - 1) / wid g - g.digs.toNat + 1)).under || g.grad)) := by
    unfold i0u
    rw [if_neg h0]
    rfl
   rw [hkk]
   generalize fitK s m 1 e g 3 ((e + blen m - 1) / wid g - g.digs.toNat + 1) = pf at *
   clear hkk h0 hK hd1 wp
   generalize hds : o0i ⟨s, m, e⟩ = sg0 at *
   have HSG := hi0 hds
   clear hds
   go_enter Tryz.func140, Tryz.ntmps140
   go_wp2_with fail
   refine h0f (fun W1 hb1 hz1 A B => ?_)
   replace hp := hp.past hb1
   have hs1 := hb1
   ((with_reducible refine (v0z s p _ c e m _ rfl).mono ?_))
   rintro e2 w2 ⟨rfl, hb2⟩
   rw [HSG.out]
   replace A := A.past hb2
   replace B := B.past hb2
   replace hp := hp.past hb2
   have hs2 := hs1.trans (hb2.mono hs1.size)
   go_wp2_with fail
   have hAl := A.lt
   have hBl := B.lt
   have hzd : w2.drew.heap.size = w2.heap.size := rfl
   have HZD := hi0 hzd
   clear hzd
   go_cut [5] (fun s5 wx => ∃ (kx : Nat) (px : OA) (cx : Nat), s5 = .pointer (some ⟨kx, 0, none⟩) ∧ Bx wx kx #[.bool pf.neg, .slice px (dig B32 pf.d).length cx, .int .i64 pf.pow, .bool pf.exact, .bool pf.over, .bool pf.under] ∧ w2.heap.size ≤ kx ∧ Below w2.heap.size w2 wx)
   case first =>
    go_region_held3 (fun w' => (w'.cell? ⟨w.heap.size, 0, none⟩ = some (.bool s) ∧ w'.cell? ⟨w.heap.size, 1, none⟩ = some (.slice p (dig B32 m).length c) ∧ w'.cell? ⟨w.heap.size, 2, none⟩ = some (.int .i64 e)) ∧
        (w'.cell? ⟨w.heap.size + 1, 0, none⟩ = some (.int .i64 g.rad) ∧ w'.cell? ⟨w.heap.size + 1, 1, none⟩ = some (.int .i64 g.digs) ∧ w'.cell? ⟨w.heap.size + 1, 2, none⟩ = some (.int .i64 g.lo) ∧ w'.cell? ⟨w.heap.size + 1, 3, none⟩ = some (.int .i64 g.hi) ∧ w'.cell? ⟨w.heap.size + 1, 4, none⟩ = some (.bool g.grad)))
     (first
     | with_reducible exact ⟨A.e3, B.e5⟩
     | with_reducible exact ⟨(A.drew).e3, (B.drew).e5⟩
     | with_reducible exact ⟨((A.laid _).drew).e3, ((B.laid _).drew).e5⟩
     | with_reducible exact ⟨(((A.laid _).drew).past hbx).e3, (((B.laid _).drew).past hbx).e5⟩
     | with_reducible exact ⟨((A.drew).past hbx).e3, ((B.drew).past hbx).e5⟩
     | with_reducible exact ⟨(((A.drew).past hbx).laid _).e3, (((B.drew).past hbx).laid _).e5⟩
     | with_reducible exact ⟨((((A.laid _).drew).past hbx).past hby).e3, ((((B.laid _).drew).past hbx).past hby).e5⟩
     | with_reducible exact ⟨((((A.drew).past hbx).laid _).past hby).e3, ((((B.drew).past hbx).laid _).past hby).e5⟩
     | with_reducible exact ⟨(((A.drew).past hbx).past hby).e3, (((B.drew).past hbx).past hby).e5⟩
     | with_reducible exact ⟨((((A.drew).past hbx).past hby).laid _).e3, ((((B.drew).past hbx).past hby).laid _).e5⟩
     | with_reducible exact ⟨(((((A.laid _).drew).past hbx).past hby).only (s0o _ _ _ _ _ _ _ _) (by omega)).e3, (((((B.laid _).drew).past hbx).past hby).only (s0o _ _ _ _ _ _ _ _) (by omega)).e5⟩
     | with_reducible exact ⟨(((((A.drew).past hbx).laid _).past hby).only (s0o _ _ _ _ _ _ _ _) (by omega)).e3, (((((B.drew).past hbx).laid _).past hby).only (s0o _ _ _ _ _ _ _ _) (by omega)).e5⟩)
     (first
       | (go_at_call 158; ((with_reducible refine (c1z s p _ c e _).mono ?_)); rintro ex wx ⟨qx, dx, rfl, hox, hbx⟩; (have hzx : w2.heap.size ≤ wx.heap.size := by have := hbx.size; simp at this; omega))
       | (go_at_call 13; (first
           | with_reducible refine (HF _ qx dx (hp.drew.past hbx) hox.rd).out.mono ?_
           | with_reducible refine (HF _ qx dx ((hp.laid _).drew.past hbx) hox.rd).out.mono ?_
           | with_reducible refine (HF _ qx dx ((hp.drew.past hbx).laid _) (hox.rd.laid _)).out.mono ?_); rintro ey wy ⟨py, cy, rfl, hoy, hby⟩; (first
           | (have XX := (k0h w2 #[.bool false, .slice none 0 0, .int .i64 0, .bool false, .bool false, .bool false] 51).drew.past hbx |>.past hby; obtain ⟨X_0, X_1, X_2, X_3, X_4, X_5⟩ := XX.e6; have X_f0 := XX.f 0; have X_f1 := XX.f 1; have X_f2 := XX.f 2; have X_f3 := XX.f 3; have X_f4 := XX.f 4; have X_f5 := XX.f 5)
           | (have XX := (k0h wx #[.bool false, .slice none 0 0, .int .i64 0, .bool false, .bool false, .bool false] 51).past hby; obtain ⟨X_0, X_1, X_2, X_3, X_4, X_5⟩ := XX.e6; have X_f0 := XX.f 0; have X_f1 := XX.f 1; have X_f2 := XX.f 2; have X_f3 := XX.f 3; have X_f4 := XX.f 4; have X_f5 := XX.f 5)
           | skip)))
    all_goals (go_wp2_with fail)
    all_goals go_meet
    · have hzy := hby.size
      exact ⟨wy.heap.size, py, cy, rfl, k0h wy _ _, by omega, (((Below.refl w2.heap.size w2).drew.trans hbx).trans (hby.mono hzx)).trans ((c0p wy _).mono (by omega))⟩
    · have hzy := hby.size
      rw [World.size_alloc] at hzy
      have hO := s0o wy wx.heap.size (.bool pf.neg) (.slice py (dig B32 pf.d).length cy) (.int .i64 pf.pow) (.bool pf.exact) (.bool pf.over) (.bool pf.under)
      exact ⟨wx.heap.size, py, cy, rfl, XX.put6 _ _ _ _ _ _, hzx, ((((Below.refl w2.heap.size w2).drew.trans hbx).trans ((c0p wx _).mono hzx)).trans (hby.mono (by rw [World.size_alloc]; omega))).trans (hO.below hzx)⟩
    · have hzy := hby.size
      have hO := s0o wy w2.heap.size (.bool pf.neg) (.slice py (dig B32 pf.d).length cy) (.int .i64 pf.pow) (.bool pf.exact) (.bool pf.over) (.bool pf.under)
      exact ⟨w2.heap.size, py, cy, rfl, XX.put6 _ _ _ _ _ _, Nat.le_refl _, ((((c0p w2 _).drew).trans (hbx.mono (by simp))).trans (hby.mono hzx)).trans (hO.below (Nat.le_refl _))⟩
   case rest =>
    obtain ⟨kx, px, cx, rfl, X, hkx, hbc⟩ := hcut
    have hs4 := hs2.trans (hbc.mono hs2.size)
    replace B := B.past hbc
    clear hbc
    obtain ⟨png, pd, ppw, pex, pov, pun⟩ := pf
    obtain ⟨X_0, X_1, X_2, X_3, X_4, X_5⟩ := X.e6
    obtain ⟨B_0, B_1, B_2, B_3, B_4⟩ := B.e5
    simp only at X_3 X_4 X_5 ⊢
    clear HF
    generalize hgr : g.grad = gr at *
    have HGR := hi0 hgr
    clear hgr
    cases pex <;> cases pov <;> cases pun <;> cases gr <;> (go_wp2; go_ret; exact ⟨by first | rfl | (rw [HGR.out]; rfl), hs4⟩)
end Go.Proofs.YtpgomglbaacmdaaGreatDoor
namespace Go.Slip
theorem l1m {s : Bool} {m : Nat} {e : Int} {g : Gd} (G : e0j g) (hin : a0p ⟨s, m, e⟩ g = true) (h0 : m ≠ 0) :
 (fitK s m 1 e g 3 ((e + blen m - 1) / wid g - g.digs.toNat + 1)).d = qP m 1 (e - wid g * c0e ⟨s, m, e⟩ g) ∧
 ((fitK s m 1 e g 3 ((e + blen m - 1) / wid g - g.digs.toNat + 1)).d ≠ 0 → (fitK s m 1 e g 3 ((e + blen m - 1) / wid g - g.digs.toNat + 1)).pow = c0e ⟨s, m, e⟩ g) ∧
 (fitK s m 1 e g 3 ((e + blen m - 1) / wid g - g.digs.toNat + 1)).d ≠ 0 := by
 have hb := f1k G hin h0
 simp only at hb
 have hp : powK g ((e + blen m - 1) / wid g - g.digs.toNat + 1) = c0e ⟨s, m, e⟩ g := by
  have eK : c0e ⟨s, m, e⟩ g = max g.lo ((e + blen m - 1) / wid g - g.digs.toNat + 1) := rfl
  rw [eK]
  unfold powK
  by_cases h1 : (e + blen m - 1) / wid g - g.digs.toNat + 1 < g.lo
  · by_cases h2 : g.grad = true
    · rw [if_pos ⟨h1, h2⟩]; omega
    · exfalso
      unfold a0p at hin
      rw [if_neg h0] at hin
      have eU : upK ⟨s, m, e⟩ (wid g) g.digs.toNat = (e + blen m - 1) / wid g - g.digs.toNat + 1 := rfl
      rw [eU] at hin
      rw [if_pos h1, if_neg h2] at hin
      simp at hin
  · rw [if_neg (fun h => h1 h.1)]; omega
 unfold fitK
 simp only
 rw [hp, f1g, l0q]
 have hq : qP m 1 (e - wid g * c0e ⟨s, m, e⟩ g) ≠ 0 := by
  unfold qP numP denP
  rw [show (-(e - wid g * c0e ⟨s, m, e⟩ g)).toNat = 0 by omega, Nat.pow_zero, Nat.mul_one, Nat.div_one]
  have := Nat.mul_pos (show 0 < m by omega) (Nat.pow_pos (n := (e - wid g * c0e ⟨s, m, e⟩ g).toNat) (show 0 < 2 by omega))
  omega
 exact ⟨rfl, fun h => by rw [if_neg h], hq⟩
end Go.Slip
namespace Go.Proofs.YtpgomglbaacmdaaGreatDoor
open Go.RowKit Go.Slip
theorem j0v (f : Fm) (w : World) : Calls Tryz.prog 160 #[(fV f)] w fun en w' => en = .returned (.int .i64 ((wid f.g : Nat) : Int)) ∧ Below w.heap.size w w' := by
 by_cases h : f.g.rad = 16
 · have hw : wid f.g = 4 := by unfold wid; rw [if_pos h]
   rw [hw]
   have I := Inv.start w [] True.intro
   refine a0g [.v ((fV f))] I Tryz.func160 ?_
   refine zb I 6 (f.g.rad == 16) (true) (beq_iff_eq.2 h) fun Al W I => zrb I
 · have hw : wid f.g = 1 := by unfold wid; rw [if_neg h]
   rw [hw]
   have I := Inv.start w [] True.intro
   refine a0g [.v ((fV f))] I Tryz.func160 ?_
   refine zb I 6 (f.g.rad == 16) (false) (bFn h) fun Al W I => zrb I
theorem p1y (f : Fm) (g : Bool) (m : Nat) (pw k : Int) (p : OA) (c : Nat) (w : World) (hp : Rd w .u32 p (dig B32 m)) (hc : (dig B32 m).length ≤ c) (hl : (dig B32 m).length ≤ 1000000) (hpw : -100000 ≤ pw ∧ pw ≤ 100000) (hT : TabW w) :
 Calls Tryz.prog 141 #[(fV f), .agg #[.int .i64 k, .bool g, .slice p (dig B32 m).length c, .int .i64 pw]] w (p0e w w.heap.size (bare ⟨g, m, wid f.g * pw⟩)) := by
 have wp := b0f f.g
 have hmu := j0d (wd := wid f.g) (k := pw) (B := 100000) wp.2 hpw
 rw [← g1a]
 generalize hmw : (wid f.g : Int) * pw = mw at *
 have HMW := hi0 hmw
 have HW := fun W h1 h2 => hi0 (g1l p _ c mw m W h1 rfl hc (by omega) (by omega) h2)
 clear hmw
 generalize hd : bare ⟨false, m, mw⟩ = d at *
 clear hd
 cases g with
 | false =>
  rw [if_neg (by simp)]
  have I := Inv.start w [rdF .u32 p (dig B32 m), tabF] ⟨hp, hT, True.intro⟩
  refine a0g [.v ((fV f)), .v (.agg #[.int .i64 k, .bool false, .slice p (dig B32 m).length c, .int .i64 pw])] I Tryz.func141 ?_
  refine zcut I none (fun fr bx gs => ∃ (U1 : Nat → Value) (p13 : OA) (c13 : Nat), fr = (.v ((fV f)) :: .v (.agg #[vI k, .bool false, vS (dig B32 m) p c, vI pw]) :: .p 0 0 :: .p 1 0 :: .p 2 0 :: .p 3 0 :: sw U1 6 9 (vu :: sw U1 16 3 []) : List SV) ∧ bx = [⟨87, [.v (vI (f.size : Int)), .v (vI (f.E : Int)), .v (vI (f.F : Int)), .v (vI f.g.rad), .v (vI f.g.digs), .v (vI f.g.lo), .v (vI f.g.hi), .v (.bool f.g.grad), .v (.bool f.hid), .v (.bool f.inf), .v (.bool f.res), .v (.func (.func (ordF f)) #[] #[])], false⟩, ⟨39, [.v (vI k), .v (.bool false), .v (vS (dig B32 m) p c), .v (vI pw)], false⟩, ⟨202, [.v (.bool false), .v (.slice none 0 0), .v (vI 0)], false⟩, ⟨202, [.v (.bool d.neg), .v (vS (dig B32 d.m) p13 c13), .v (vI d.e)], false⟩] ∧ gs = [ownF w.heap.size .u32 101 p13 c13 (dig B32 d.m), rdF .u32 p (dig B32 m), tabF]) ?_ ?_
  · intro J hJ Al W I
    refine zd [] I fun Al W I => zk [0, 1, 2, 4, 5] I fun I => zo2 3 8 I (fun I => ?_) (fun I => ?_)
    · refine zq I (fun Al W I => j0v f W) fun Al W I => zki 6 I .i64 (((wid f.g : Nat) : Int) * pw) (mw) ((by rw [HMW.out]; exact iwo)) fun I => zo2 7 8 I (fun I => ?_) (fun I => ?_)
      · refine zqo I (fun Al W I => (HW W I.fa.1 I.fa.2.1).out) fun Al W p13 c13 I => zo 8 I fun I => zn I fun Al W I => zo 9 I fun I => zn I fun Al W I => a0i I J fun Al W U I => hJ _ _ _ _ _ ⟨U, p13, c13, rfl, rfl, rfl⟩ (I.pick [0, 1, 2])
      refine zn I fun Al W I => zo 7 I fun I => zqo I (fun Al W I => (HW W I.fa.1 I.fa.2.1).out) fun Al W p13 c13 I => zo 9 I fun I => zn I fun Al W I => a0i I J fun Al W U I => hJ _ _ _ _ _ ⟨U, p13, c13, rfl, rfl, rfl⟩ (I.pick [0, 1, 2])
    refine zn I fun Al W I => zo 3 I fun I => zq I (fun Al W I => j0v f W) fun Al W I => zki 6 I .i64 (((wid f.g : Nat) : Int) * pw) (mw) ((by rw [HMW.out]; exact iwo)) fun I => zo 7 I fun I => zqo I (fun Al W I => (HW W I.fa.1 I.fa.2.1).out) fun Al W p13 c13 I => zo 9 I fun I => zn I fun Al W I => a0i I J fun Al W U I => hJ _ _ _ _ _ ⟨U, p13, c13, rfl, rfl, rfl⟩ (I.pick [0, 1, 2])
  rintro _ _ _ ⟨U1, p13, c13, rfl, rfl, rfl⟩ Al W I
  exact zret I fun Al W I => ⟨p13, c13, rfl, I.fa.1.mono (by omega), I.below⟩
 | true =>
  rw [if_pos rfl]
  have I := Inv.start w [rdF .u32 p (dig B32 m), tabF] ⟨hp, hT, True.intro⟩
  refine a0g [.v ((fV f)), .v (.agg #[.int .i64 k, .bool true, .slice p (dig B32 m).length c, .int .i64 pw])] I Tryz.func141 ?_
  refine zcut I none (fun fr bx gs => ∃ (U1 : Nat → Value) (p13 : OA) (c13 : Nat), fr = (.v ((fV f)) :: .v (.agg #[vI k, .bool true, vS (dig B32 m) p c, vI pw]) :: .p 0 0 :: .p 1 0 :: .p 2 0 :: .p 3 0 :: sw U1 6 9 (vu :: sw U1 16 3 []) : List SV) ∧ bx = [⟨87, [.v (vI (f.size : Int)), .v (vI (f.E : Int)), .v (vI (f.F : Int)), .v (vI f.g.rad), .v (vI f.g.digs), .v (vI f.g.lo), .v (vI f.g.hi), .v (.bool f.g.grad), .v (.bool f.hid), .v (.bool f.inf), .v (.bool f.res), .v (.func (.func (ordF f)) #[] #[])], false⟩, ⟨39, [.v (vI k), .v (.bool true), .v (vS (dig B32 m) p c), .v (vI pw)], false⟩, ⟨202, [.v (.bool false), .v (.slice none 0 0), .v (vI 0)], false⟩, ⟨202, [.v (.bool d.neg), .v (vS (dig B32 d.m) p13 c13), .v (vI d.e)], false⟩] ∧ gs = [ownF w.heap.size .u32 101 p13 c13 (dig B32 d.m), rdF .u32 p (dig B32 m), tabF]) ?_ ?_
  · intro J hJ Al W I
    refine zd [] I fun Al W I => zk [0, 1, 2, 4, 5] I fun I => zo2 3 8 I (fun I => ?_) (fun I => ?_)
    · refine zq I (fun Al W I => j0v f W) fun Al W I => zki 6 I .i64 (((wid f.g : Nat) : Int) * pw) (mw) ((by rw [HMW.out]; exact iwo)) fun I => zo2 7 8 I (fun I => ?_) (fun I => ?_)
      · refine zqo I (fun Al W I => (HW W I.fa.1 I.fa.2.1).out) fun Al W p13 c13 I => zo 8 I fun I => zn I fun Al W I => zo 9 I fun I => zn I fun Al W I => a0i I J fun Al W U I => hJ _ _ _ _ _ ⟨U, p13, c13, rfl, rfl, rfl⟩ (I.pick [0, 1, 2])
      refine zn I fun Al W I => zo 7 I fun I => zqo I (fun Al W I => (HW W I.fa.1 I.fa.2.1).out) fun Al W p13 c13 I => zo 9 I fun I => zn I fun Al W I => a0i I J fun Al W U I => hJ _ _ _ _ _ ⟨U, p13, c13, rfl, rfl, rfl⟩ (I.pick [0, 1, 2])
    refine zn I fun Al W I => zo 3 I fun I => zq I (fun Al W I => j0v f W) fun Al W I => zki 6 I .i64 (((wid f.g : Nat) : Int) * pw) (mw) ((by rw [HMW.out]; exact iwo)) fun I => zo 7 I fun I => zqo I (fun Al W I => (HW W I.fa.1 I.fa.2.1).out) fun Al W p13 c13 I => zo 9 I fun I => zn I fun Al W I => a0i I J fun Al W U I => hJ _ _ _ _ _ ⟨U, p13, c13, rfl, rfl, rfl⟩ (I.pick [0, 1, 2])
  rintro _ _ _ ⟨U1, p13, c13, rfl, rfl, rfl⟩ Al W I
  refine zq I (fun Al W I => p1l d.neg p13 _ c13 d.e d.m W rfl) fun Al W I => zret I fun Al W I => ⟨p13, c13, rfl, I.fa.1.mono (by omega), I.below⟩
theorem b1e (f : Fm) (g : Bool) (E : Int) (e x : Nat) (hE : E = e) (p : OA) (c : Nat) (w : World) (G : d0h f) (hp : Rd w .u32 p (dig B32 x)) (he : e < 2 ^ f.E) (hx : x < 2 ^ f.F) :
 Calls Tryz.prog 143 #[(fV f), .agg #[.bool g, .int .i64 E, .slice p (dig B32 x).length c]] w fun en w' => en = .returned (.string (a0d (f.str g e x))) ∧ Below w.heap.size w w' := by
 subst hE
 exact b1d f g e x p c w G hp he hx
theorem p1z {F : Nat} (h : F ≤ 64) : (dig B32 (2 ^ F)).length ≤ 3 := b0b (n := F + 1) (Nat.pow_lt_pow_right (by omega) (by omega)) (by omega)
theorem d1a (f : Fm) (d : Dv) (p : OA) (c : Nat) (w : World) (G : d0h f) (hp : Rd w .u32 p (dig B32 d.m)) (hl : (dig B32 d.m).length ≤ 1200) (he : -60000 ≤ d.e ∧ d.e ≤ 60000) (hin : a0p d f.g = true) (h0 : d.m ≠ 0) :
 Calls Tryz.prog 142 #[(fV f), .agg #[.bool d.neg, .slice p (dig B32 d.m).length c, .int .i64 d.e]] w fun en w' => en = .returned (.string (a0d (f.strP (f.numP d)))) ∧ Below w.heap.size w w' := by
 have hg := b0o G.g
 have N := f1y G hin h0
 have hlt := f1z G N
 obtain ⟨s, m, e⟩ := d
 simp only at h0 hl he hp
 have hd1 := hg.d1
 have hd2 := hg.d2
 have hl1 : (dig B32 1).length ≤ 1 := by rw [a0h a0a]; unfold B32; omega
 obtain ⟨f1, f2, f3⟩ := l1m hg hin h0
 have f4 := f2 f3
 have hq : qP m 1 (e - wid f.g * c0e ⟨s, m, e⟩ f.g) = f.fr ⟨s, m, e⟩ := by
  have := N.e0
  simp only at this
  unfold qP numP denP Fm.fr
  rw [show (-(e - wid f.g * c0e ⟨s, m, e⟩ f.g)).toNat = 0 by omega, Nat.pow_zero, Nat.mul_one, Nat.div_one]
 rw [hq] at f1
 have hK := t0c (show 0 < m by omega) e (w := wid f.g) (D := f.g.digs.toNat) (b0f f.g).1 (by omega)
 have HF := fun W q d (h1 : Rd W .u32 p (dig B32 m)) (h2 : Rd W .u32 q (dig B32 1)) => hi0 (t0y s p q c d m 1 e f.g 3 _ W h1 h2 (by omega) (by omega) (by omega) (by omega) (by omega) hg (by omega) (by omega) hK)
 have hlow := N.low
 have hbl := N.bl
 have hk1 := N.k1
 have hk2 := N.k2
 have hfl : (dig B32 (f.fr ⟨s, m, e⟩)).length ≤ 16 := b0b N.lt (k := 16) (by have := Nat.mul_le_mul (b0f f.g).2 (show f.g.digs.toNat ≤ 120 by omega); omega)
 have hnp : f.numP ⟨s, m, e⟩ = if f.fam = 2 then ⟨s, (c0e ⟨s, m, e⟩ f.g - f.g.lo).toNat, f.fr ⟨s, m, e⟩⟩
  else if (blen (f.fr ⟨s, m, e⟩) : Int) = f.g.digs then ⟨s, (c0e ⟨s, m, e⟩ f.g - f.g.lo).toNat + 1, if f.ext then f.fr ⟨s, m, e⟩ else f.fr ⟨s, m, e⟩ - 2 ^ f.F⟩
  else ⟨s, (c0e ⟨s, m, e⟩ f.g - f.g.lo).toNat, f.fr ⟨s, m, e⟩⟩ := rfl
 rw [hnp] at hlt ⊢
 clear hnp N
 generalize f.fr ⟨s, m, e⟩ = X at *
 generalize c0e ⟨s, m, e⟩ f.g = K at *
 generalize fitK s m 1 e f.g 3 ((e + blen m - 1) / wid f.g - f.g.digs.toNat + 1) = pf at *
 obtain ⟨pn, pd, pp, pex, pov, pun⟩ := pf
 simp only at f1 f4
 subst f1 f4
 clear hK f2 f3 hq
 have z5 := G.lo
 have z6 := G.hi
 have hr := G.rad
 have hw := G.w
 have HJ := fun (W : World) (g : Bool) (e x : Nat) (p : OA) (c : Nat) h h1 h2 => hi0 (b1d f g e x p c W G h h1 h2)
 unfold Fm.strP
 have ht := p1z G.f2
 have hh : f.fam ≠ 2 → (f.hid = true ↔ f.ext = false) := fun h => by unfold Fm.hid; cases f.ext <;> simp [h]
 have h33 : (f.g.rad == 2) = true ↔ f.fam ≠ 2 := by rw [beq_iff_eq]; split at hr <;> omega
 have hge : f.fam ≠ 2 → (blen pd : Int) = f.g.digs → f.ext = false → 2 ^ f.F ≤ pd := fun hf hb hx => by
  have hFF := G.d1 hf hx
  have h1 := h0v pd ((e0h pd).1 (by omega))
  rw [show blen pd - 1 = f.F by omega] at h1
  exact h1
 have hbd : f.fam ≠ 2 → (blen pd : Int) ≤ f.g.digs := fun hf => by rw [if_neg hf] at hw; rw [hw] at hbl; omega
 obtain ⟨Q, hQ⟩ : ∃ Q, (if f.fam = 2 then (⟨s, (pp - f.g.lo).toNat, pd⟩ : Pt)
   else if (blen pd : Int) = f.g.digs then ⟨s, (pp - f.g.lo).toNat + 1, if f.ext then pd else pd - 2 ^ f.F⟩
   else ⟨s, (pp - f.g.lo).toNat, pd⟩) = Q := ⟨_, rfl⟩
 rw [hQ] at hlt ⊢
 obtain ⟨q33, hq33⟩ : ∃ q, (f.g.rad == 2) = q := ⟨_, rfl⟩
 let aA : Box := ⟨87, [.v (.int .i64 (f.size : Int)), .v (.int .i64 (f.E : Int)), .v (.int .i64 (f.F : Int)), .v (.int .i64 f.g.rad), .v (.int .i64 f.g.digs), .v (.int .i64 f.g.lo), .v (.int .i64 f.g.hi), .v (.bool f.g.grad), .v (.bool f.hid), .v (.bool f.inf), .v (.bool f.res), .v (.func (.func (ordF f)) #[] #[])], false⟩
 let aB : Box := ⟨202, [.v (.bool s), .v (.slice p (dig B32 m).length c), .v (.int .i64 e)], false⟩
 let aC : SV := .v ((fV f))
 let aD : SV := .v (.agg #[.bool s, .slice p (dig B32 m).length c, .int .i64 e])
 have I := Inv.start w [rdF .u32 p (dig B32 m)] ⟨hp, True.intro⟩
 refine a0g [.v ((fV f)), .v (.agg #[.bool s, .slice p (dig B32 m).length c, .int .i64 e])] I Tryz.func142 ?_
 refine zcut I none (fun fr bx gs => ∃ (U1 : Nat → Value) (p21 : OA) (c21 : Nat), fr = (aC :: aD :: .p 0 0 :: .p 1 0 :: .v (Go.Value.string (ByteArray.mk #[])) :: .p 2 0 :: su 2 (sw U1 8 25 (vu :: sw U1 34 7 (vu :: .v (U1 42) :: vu :: sw U1 44 13 []))) : List SV) ∧ bx = [aA, aB, ⟨51, [.v (.bool pn), .v (vS (dig B32 pd) p21 c21), .v (vI pp), .v (.bool pex), .v (.bool pov), .v (.bool pun)], false⟩] ∧ gs = [ownF w.heap.size .u32 101 p21 c21 (dig B32 pd), rdF .u32 p (dig B32 m)]) ?_ ?_
 · intro J hJ Al W I
   refine zd [] I fun Al W I => zk [0, 1, 2, 3, 4, 5, 7, 8, 9, 11, 12] I fun I => zo2 6 14 I (fun I => ?_) (fun I => ?_)
   · refine zqo I (fun Al W I => have hzW := I.bel.size; sof 1 1 rfl (by omega) W) fun Al W p14 c14 I => zk [10] I fun I => zo2 13 14 I (fun I => ?_) (fun I => ?_)
     · refine zg I (fun Al W I => (HF W p14 c14 I.fa.2.1 I.fa.1.rd).out) fun Al V Iv _ hB _ kz => ?_
       rintro _ W ⟨p21, c21, rfl, o21, hb⟩
       refine ⟨_, rfl, kz _ _ hb fun I => ?_⟩
       have I := I.own o21
       refine zo 14 I fun I => zn I fun Al W I => zo 15 I fun I => zn I fun Al W I => a0i I J fun Al W U I => hJ _ _ _ _ _ ⟨U, p21, c21, rfl, rfl, rfl⟩ (I.pick [0, 2])
     refine zn I fun Al W I => zo 13 I fun I => zg I (fun Al W I => (HF W p14 c14 I.fa.2.1 I.fa.1.rd).out) fun Al V Iv _ hB _ kz => ?_
     rintro _ W ⟨p21, c21, rfl, o21, hb⟩
     refine ⟨_, rfl, kz _ _ hb fun I => ?_⟩
     have I := I.own o21
     refine zo 15 I fun I => zn I fun Al W I => a0i I J fun Al W U I => hJ _ _ _ _ _ ⟨U, p21, c21, rfl, rfl, rfl⟩ (I.pick [0, 2])
   refine zn I fun Al W I => zo 6 I fun I => zqo I (fun Al W I => have hzW := I.bel.size; sof 1 1 rfl (by omega) W) fun Al W p14 c14 I => zk [10] I fun I => zo 13 I fun I => zg I (fun Al W I => (HF W p14 c14 I.fa.2.1 I.fa.1.rd).out) fun Al V Iv _ hB _ kz => ?_
   rintro _ W ⟨p21, c21, rfl, o21, hb⟩
   refine ⟨_, rfl, kz _ _ hb fun I => ?_⟩
   have I := I.own o21
   refine zo 15 I fun I => zn I fun Al W I => a0i I J fun Al W U I => hJ _ _ _ _ _ ⟨U, p21, c21, rfl, rfl, rfl⟩ (I.pick [0, 2])
 rintro _ _ _ ⟨U1, p21, c21, rfl, rfl, rfl⟩ Al W I
 refine zi I 27 .i64 (pp - f.g.lo) ((((pp - f.g.lo).toNat : Nat) : Int)) ((by rw [show (((pp - f.g.lo).toNat : Nat) : Int) = pp - f.g.lo by omega]; exact iwo)) fun Al W I => zb I 33 (f.g.rad == 2) (q33) (hq33) fun Al W I => zcut I (some 2000033) (fun fr bx gs => ∃ (U2 : Nat → Value) (e1 : Nat) (x1 : Nat) (p1 : OA) (c1 : Nat), fr = (aC :: aD :: .p 0 0 :: .p 1 0 :: .v (Go.Value.string (ByteArray.mk #[])) :: .p 2 0 :: .v (vI (e1 : Int)) :: .v (vS (dig B32 x1) p1 c1) :: sw U2 8 25 (.v (.bool q33) :: sw U2 34 23 []) : List SV) ∧ bx = [aA, aB, ⟨51, [.v (.bool pn), .v (vS (dig B32 pd) p21 c21), .v (vI pp), .v (.bool pex), .v (.bool pov), .v (.bool pun)], false⟩] ∧ gs = [ownF w.heap.size .u32 101 p1 c1 (dig B32 x1), rdF .u32 p (dig B32 m)] ∧ (Q = ⟨s, e1, x1⟩)) ?_ ?_
 · intro J hJ Al W I
   rcases bTF q33 with rfl | rfl
   · refine zi I 35 .i64 ((((pp - f.g.lo).toNat : Nat) : Int) + 1) ((((pp - f.g.lo).toNat + 1 : Nat) : Int)) ((by rw [show ((((pp - f.g.lo).toNat : Nat) : Int) + 1) = (((pp - f.g.lo).toNat + 1 : Nat) : Int) by omega]; exact iwo)) fun Al W I => ?_
     by_cases s41 : ((blen pd : Nat) : Int) < f.g.digs
     · have hf := h33.1 hq33
       refine zd [] I fun Al W I => zk [0, 2, 3, 4] I fun I => zo 1 I fun I => zq I (fun Al W I => have hzW := I.bel.size; stay (i0z p21 _ c21 pd W I.fa.1.rd rfl (by omega))) fun Al W I => zkb 5 I (decide (((blen pd : Nat) : Int) < f.g.digs)) (true) (dTr s41) fun I => a0i I J fun Al W U I => hJ _ _ _ _ _ ⟨U, 0, pd, p21, c21, rfl, rfl, rfl, (by have hf := h33.1 hq33; rw [← hQ, if_neg hf, if_neg (by omega), show (pp - f.g.lo).toNat = 0 by have := (hlow hf (by omega)).1; omega])⟩ (I.pick [0, 1])
     have hf := h33.1 hq33
     refine zd [] I fun Al W I => zk [0, 2, 3, 4] I fun I => zo 1 I fun I => zq I (fun Al W I => have hzW := I.bel.size; stay (i0z p21 _ c21 pd W I.fa.1.rd rfl (by omega))) fun Al W I => zkb 5 I (decide (((blen pd : Nat) : Int) < f.g.digs)) (false) (dFa s41) fun I => ?_
     rcases bTF (f.hid) with f43 | f43
     · refine zb I 43 (f.hid) (true) (f43) fun Al W I => zqo I (fun Al W I => have hzW := I.bel.size; j0b f.F (2 ^ f.F) _ W (by have := G.f2; omega) rfl rfl) fun Al W p47 c47 I => zqo I (fun Al W I => have hzW := I.bel.size; ssub p21 p47 _ _ c21 c47 pd (2 ^ f.F) (pd - 2 ^ f.F) W I.fa.2.1.rd I.fa.1.rd rfl rfl (by omega) (hge (h33.1 hq33) (by have := hbd (h33.1 hq33); omega) ((hh (h33.1 hq33)).1 f43)) rfl) fun Al W p48 c48 I => a0i I J fun Al W U I => hJ _ _ _ _ _ ⟨U, ((pp - f.g.lo).toNat + 1), (pd - 2 ^ f.F), p48, c48, rfl, rfl, rfl, (by have hf := h33.1 hq33; have := hbd hf; rw [← hQ, if_neg hf, if_pos (by omega), if_neg (by rw [(hh hf).1 f43]; exact Bool.false_ne_true)])⟩ (I.pick [0, 3])
     refine zb I 43 (f.hid) (false) (f43) fun Al W I => a0i I J fun Al W U I => hJ _ _ _ _ _ ⟨U, ((pp - f.g.lo).toNat + 1), pd, p21, c21, rfl, rfl, rfl, (by have hf := h33.1 hq33; have := hbd hf; rw [← hQ, if_neg hf, if_pos (by omega), if_pos (by cases hx : f.ext; (have := (hh hf).2 hx; rw [f43] at this; cases this); rfl)])⟩ (I.pick [0, 1])
   exact a0i I J fun Al W U I => hJ _ _ _ _ _ ⟨U, (pp - f.g.lo).toNat, pd, p21, c21, rfl, rfl, rfl, (by rw [← hQ, if_pos (by by_cases h : f.fam = 2; exact h; (have := h33.2 h; rw [hq33] at this; cases this))])⟩ (I.pick [0, 1])
 rintro _ _ _ ⟨U2, e1, x1, p1, c1, rfl, rfl, rfl, hQ1⟩ Al W I
 refine zq I (fun Al W I => (HJ W s e1 x1 p1 c1 I.fa.1.rd (by rw [hQ1] at hlt; exact hlt.1) (by rw [hQ1] at hlt; exact hlt.2)).out) fun Al W I => zret I (v := fun Al => .string (a0d (f.str s e1 x1))) fun Al W I => ⟨by rw [hQ1], I.below⟩
end Go.Proofs.YtpgomglbaacmdaaGreatDoor
