/- codec: split: the parts of a pattern. -/
import Derived.Deep.LoopGhost
import Derived.Lib.Strings
import Derived.Lib.Slices
import Derived.Lib.Small
import Derived.Lib.Walk
import Derived.Lib.BitFns
import Derived.Outline
import Derived.Deep.RegionHeld3
import Derived.Lib.MinMax
import Derived.Lib.SmallJoins
import Derived.Shelf.Strings.Trim
import Derived.Shelf.Strconv.Atoi
import Derived.Shelf.LaysM
import Derived.Shelf.Strconv.Itoa3
import Derived.Test.YtgbbhlginbmghaaGreatDoorProg
import Derived.LaidSub
import Derived.Lib.LaidTab
import Derived.Test.YtgbbhlginbmghaaGreatDoorMCb1
import Derived.Test.YtgbbhlginbmghaaGreatDoorMCb2
import Derived.Test.YtgbbhlginbmghaaGreatDoorMCb3
import Derived.Test.YtgbbhlginbmghaaGreatDoorMCb4
import Derived.Test.YtgbbhlginbmghaaGreatDoorMCb5
set_option maxHeartbeats 8000000
set_option maxRecDepth 100000
namespace Go.Slip
theorem s0y (L : List Nat) (i : Nat) (h : i < L.length) : be (L.take i) * 2 ^ 8 + dg L i = be (L.take (i + 1)) := by
 rw [← List.take_append_getElem h, b1v, a0t h]
theorem n0e (n : Nat) : ((n : Int) == 1) = (n == 1) := by
 rw [Bool.eq_iff_iff, beq_iff_eq, beq_iff_eq]; omega
theorem y0s (L : List Nat) (i : Nat) (h : ∀ c ∈ L, c < 256) (hl : L.length ≤ 10) : be (L.take i) < 2 ^ 80 := by
 have h1 := o1q (L.take i) (fun c hc => h c (List.mem_of_mem_take hc))
 refine Nat.lt_of_lt_of_le h1 (Nat.pow_le_pow_right (by omega) ?_)
 have : (L.take i).length ≤ L.length := by rw [List.length_take]; omega
 omega
theorem q1u {L : List Nat} (h : ∀ c ∈ L, c < 256) (i : Nat) : dg L i < 256 := by
 unfold dg
 cases e : L[i]? with
 | none => simp
 | some x => exact h x (List.mem_of_getElem? e)
theorem be0 (L : List Nat) : be (L.take 0) = 0 := by rw [List.take_zero]; rfl
end Go.Slip
namespace Go.Proofs.YtgbbhlginbmghaaGreatDoor
open Go.RowKit Go.Slip
def a0s (f : Fm) (s : ByteArray) : Nat := be (ordL f.ord (a0b s))
def p1l (w : World) (g : Bool) (e x : Nat) (en : Ending) (w' : World) : Prop :=
 ∃ p c, en = .returned (.agg #[.bool g, .int .i64 (e : Int), .slice p (dig B32 x).length c]) ∧ Own w' w.heap.size .u32 139 p c (dig B32 x) ∧ Below w.heap.size w w'
theorem m1f (L : List Nat) (w : World) (b : Nat) : Own w b .u32 139 none 0 (dig B32 (be (L.take 0))) := by rw [be0, a0d]; exact Own.nil _ _ _ _
theorem d1d (f : Fm) (s : ByteArray) (w : World) (G : b0z f) (hs : s.size = f.size) :
 Calls Tryz.prog 132 #[(fV f), .string s] w (p1l w (f.neg (a0s f s)) (f.exp (a0s f s)) (f.frac (a0s f s))) := by
 have z1 := G.sz
 have z2 := G.e2
 have z3 := G.f2
 have z4 := G.bits
 have hl0 : (a0b s).length = f.size := by rw [b0c, hs]
 have hlL : (ordL f.ord (a0b s)).length = f.size := by rw [c0d, hl0]
 have hbL := o0t (o := f.ord) (xs := a0b s) (fun _ => by omega) (o0m s)
 have hord := fun (W : World) (base : Nat) (p : OA) (c : Nat) h1 => c1p f base p s.size c (a0b s) W G h1 (b0c s).symm hl0
 unfold a0s
 generalize ordL f.ord (a0b s) = L at *
 have hNlt : be L < 2 ^ (8 * f.size) := by rw [← hlL]; exact o1q L hbL
 have hst := fun i h => s0y L i h
 have hlt := fun i => y0s L i hbL (by omega)
 have hdg := q1u hbL
 have hfin : be (L.take f.size) = be L := by rw [List.take_of_length_le (by omega)]
 have hTlt : be L / 2 ^ f.F < 2 ^ (f.E + 1) := by
  rw [Nat.div_lt_iff_lt_mul (Nat.pow_pos (by omega)), ← Nat.pow_add, show f.E + 1 + f.F = 8 * f.size by omega]
  exact hNlt
 have hT16 : be L / 2 ^ f.F < 65536 := Nat.lt_of_lt_of_le hTlt (by rw [show (65536 : Nat) = 2 ^ 16 from rfl]; exact Nat.pow_le_pow_right (by omega) (by omega))
 have hN80 : be L < 2 ^ 80 := Nat.lt_of_lt_of_le hNlt (Nat.pow_le_pow_right (by omega) (by omega))
 have ef : f.frac (be L) = be L - be L / 2 ^ f.F * 2 ^ f.F := by
  unfold Fm.frac
  have := Nat.div_add_mod (be L) (2 ^ f.F)
  rw [Nat.mul_comm] at this
  omega
 have hle : be L / 2 ^ f.F * 2 ^ f.F ≤ be L := Nat.div_mul_le_self _ _
 have hlfr : (dig B32 (be L / 2 ^ f.F * 2 ^ f.F)).length ≤ 3 := a0q (Nat.lt_of_le_of_lt hle hN80) (by omega)
 rw [ef]
 unfold Fm.neg Fm.exp
 obtain ⟨T, hT⟩ : ∃ T, be L / 2 ^ f.F = T := ⟨_, rfl⟩
 rw [hT] at hTlt hT16 hle hlfr ⊢
 have hTl : (dig B32 T).length ≤ 1 := a0q (n := 32) (by omega) (by omega)
 have hT0 : (dig B32 T).length = 0 ↔ T = 0 := a0g a0a T
 have hTd : 0 < (dig B32 T).length → dg (dig B32 T) 0 = T := fun h => by
  have h0 : 0 < T := by omega
  rw [c1v a0a h0 (by unfold B32; omega)]
  rfl
 have hla := fun i => a0q (hlt i) (k := 3) (by omega)
 have hlN := a0q hN80 (k := 3) (by omega)
 clear hNlt hlt hN80 ef hbL hl0
 have hsh := q0b (E := f.E) (by omega)
 have h0T : 0 < 2 ^ f.E := Nat.pow_pos (by omega)
 have h0T2 : 2 ^ f.E ≤ 2 ^ 15 := Nat.pow_le_pow_right (by omega) (by omega)
 have hand := fun h => m0o (x := T) (E := f.E) h (by omega)
 have hshr := b1a (x := T) (E := f.E) (by omega)
 have hand0 := fun h => m0o (x := 0) (E := f.E) h (by omega)
 have hshr0 := b1a (x := 0) (E := f.E) (by omega)
 generalize hP : 2 ^ f.E = P at *
 have HAND := lHd hand
 have HSHR := lHd hshr
 have HAND0 := lHd hand0
 have HSHR0 := lHd hshr0
 have HSH := lHd hsh
 have HFIN := lHd hfin
 have HTT := lHd hT
 clear hand hshr hand0 hshr0 hsh hfin hT
 have hs0 : 0 < (a0b s).length := by rw [b0c]; omega
 have I := Inv.start w [] True.intro
 refine a0c [.v ((fV f)), .v (.string s)] I Tryz.func132 ?_
 refine zby I 12 uStr c1u m1d s fun Al W p12 c12 I => zsp (g := wrF w.heap.size .u8 p12 L) I [] (blk p12) (c1o f) (fun Al W I => hord W w.heap.size p12 c12 I.fa.1) (fun Al W I => ⟨⟨hs0, rfl⟩, I.fa.1.from_ hs0, True.intro⟩) (fun _ h => ⟨hs0, h.2⟩) fun Al W I => ?_
 have I := I.own (m1f L _ w.heap.size) (Nat.le_refl _)
 refine h0c I (fun gk fr bx gs => ∃ (U900 : Nat → Value) (i : Nat) (p6 : OA) (c6 : Nat) (n6 : Nat), fr = (.v ((fV f)) :: .v (.string s) :: .p 0 0 :: .v undef :: .p 1 0 :: .v (.slice p12 s.size c12) :: .v (.slice p6 n6 c6) :: .v undef :: .v (U900 8) :: su 2 (sw U900 11 6 (.v (.slice p12 s.size c12) :: .v (.int .i64 (s.size : Int)) :: .v (.int .i64 (i : Int)) :: sw U900 20 16 (.v undef :: sw U900 37 22 []))) : List SV) ∧ bx = [⟨98, [.v (.int .i64 (f.size : Int)), .v (.int .i64 (f.E : Int)), .v (.int .i64 (f.F : Int)), .v (.int .i64 f.g.rad), .v (.int .i64 f.g.digs), .v (.int .i64 f.g.lo), .v (.int .i64 f.g.hi), .v (.bool f.g.grad), .v (.bool f.hid), .v (.bool f.inf), .v (.bool f.res), .v (.func (.func (ordF f)) #[] #[])], false⟩, ⟨197, [.v (.bool false), .v (.int .i64 0), .v (.slice none 0 0)], false⟩] ∧ gs = [ownF w.heap.size .u32 139 p6 c6 (dig B32 (be (L.take i))), wrF w.heap.size .u8 p12 L] ∧ (n6 = (dig B32 (be (L.take i))).length) ∧ (gk + i = f.size)) f.size (fun Al W U I => ⟨_, ⟨U, 0, none, 0, 0, rfl, rfl, rfl, by rw [be0, a0d]; rfl, (by omega)⟩, I.pick [0, 1]⟩) ?_
 rintro J0 gk0 _ _ _ ⟨U900, i, p6, c6, n6, rfl, rfl, rfl, hn6, hgk⟩ hJ0 Al W I
 rcases bTF (decide ((i : Int) < (s.size : Int))) with f20 | f20
 · refine zb I 20 (decide ((i : Int) < (s.size : Int))) (true) (f20) fun Al W I => zx I 21 (fun _ => .pointer (some (at_ p12 i))) (fun Al W I => d0k (c := c12) i0x (by have h := I.fa.2.1.rd.solid; rw [hlL, ← hs] at h; exact h) (by have := oTr f20; omega)) fun Al W I => zx I 22 (fun _ => .int .u8 ((dg L i : Nat) : Int)) (fun Al W I => s0x I.fa.2.1.rd p1h (by have := oTr f20; omega)) fun Al W I => zqo I (fun Al W I => have hzW := I.bel.size; sshl p6 _ c6 (be (L.take i)) 8 _ 8 W I.fa.1.rd hn6 (by have := hla i; omega) (by omega) rfl rfl) fun Al W p24 c24 I => zi I 26 .i64 ((dg L i : Nat) : Int) (((dg L i : Nat) : Int)) ((IntWalk.i64_in _ (by have := hdg i; omega))) fun Al W I => zqo I (fun Al W I => have hzW := I.bel.size; sof _ (dg L i) rfl (by have := hdg i; omega) W) fun Al W p27 c27 I => zqo I (fun Al W I => have hzW := I.bel.size; sadd p24 p27 _ _ c24 c27 (be (L.take i) * 2 ^ 8) (dg L i) (be (L.take (i + 1))) W I.fa.2.1.rd I.fa.1.rd rfl rfl (by have := a0k a0a (show be (L.take i) * 2 ^ 8 ≤ be (L.take (i + 1)) by have := hst i (by have := oTr f20; omega); omega); have := hla (i + 1); omega) (by have := a0k a0a (show dg L i ≤ be (L.take (i + 1)) by have := hst i (by have := oTr f20; omega); omega); have := hla (i + 1); omega) (hst i (by have := oTr f20; omega))) fun Al W p28 c28 I => zi I 29 .i64 ((i : Int) + 1) (((i + 1 : Nat) : Int)) ((by rw [show ((i : Int) + 1) = ((i + 1 : Nat) : Int) by omega]; exact IntWalk.i64_in _ (by have := oTr f20; omega))) fun Al W I => a0j I J0 fun Al W U I => hJ0 (gk0 - 1) _ _ _ _ _ ((by have := oTr f20; omega)) ⟨U, i + 1, p28, c28, (dig B32 (be (L.take (i + 1)))).length, rfl, rfl, rfl, rfl, (by have := oTr f20; omega)⟩ (I.pick [0, 4])
 refine zb I 20 (decide ((i : Int) < (s.size : Int))) (false) (f20) fun Al W I => ?_
 have hi : i = f.size := by have := oFa f20; omega
 have hbe : be (L.take i) = be L := by rw [hi, HFIN.out]
 rw [hbe] at hn6
 refine zqo I (fun Al W I => have hzW := I.bel.size; sshr p6 _ c6 (be L) f.F T _ W (by rw [← hbe]; exact I.fa.1.rd) hn6 (by have h := I.fa.1.le_cap; rw [hbe] at h; exact h) (by omega) (by omega) rfl HTT.out) fun Al W p33 c33 I => ?_
 rcases bTF (decide ((((dig B32 T).length : Nat) : Int) > 0)) with f36 | f36
 · refine zb I 36 (decide ((((dig B32 T).length : Nat) : Int) > 0)) (true) (f36) fun Al W I => zx I 38 (fun _ => .pointer (some (at_ p33 0))) (fun Al W I => d0k (c := c33) (m := 0) d1c I.fa.1.rd.solid (by have := oTr f36; omega)) fun Al W I => zx I 39 (fun _ => .int .u32 (T : Int)) (fun Al W I => o1v I.fa.1.rd g1t (by have := oTr f36; omega) (hTd (by have := oTr f36; omega))) fun Al W I => zi I 40 .i64 (T : Int) (T : Int) (iwo) fun Al W I => zd [1] I fun Al W I => zk [0, 1, 2] I fun I => x0y 3 I _ (fun _ _ _ _ => k0s .i64 (T : Int) .i64 (f.E : Int) (((T / P : Nat) : Int)) (Int.natCast_nonneg f.E) ((by exact HSHR.out))) fun I => zkb 4 I (((T / P : Nat) : Int) == 1) ((T / P == 1)) ((by exact n0e _)) fun I => zk [5, 6, 7] I fun I => x0y 8 I _ (fun _ _ _ _ => m0q .i64 (1) .i64 (f.E : Int) ((P : Int)) (Int.natCast_nonneg f.E) ((HSH.out))) fun I => zki 9 I .i64 ((P : Int) - 1) (((P - 1 : Nat) : Int)) ((by rw [show ((P : Int) - 1) = ((P - 1 : Nat) : Int) by omega]; exact iwo)) fun I => x0y 10 I _ (fun _ _ _ _ => h0d .i64 (T : Int) (((P - 1 : Nat) : Int)) (((T % P : Nat) : Int)) ((by exact HAND.out (by omega)))) fun I => zk [11, 12, 13, 14] I fun I => zo 15 I fun I => zqo I (fun Al W I => have hzW := I.bel.size; sshl p33 _ c33 T f.F (T * 2 ^ f.F) _ W I.fa.1.rd rfl (by omega) (by omega) rfl rfl) fun Al W p56 c56 I => zo 16 I fun I => zqo I (fun Al W I => have hzW := I.bel.size; ssub p6 p56 _ _ c6 c56 (be L) (T * 2 ^ f.F) (be L - T * 2 ^ f.F) W (by rw [← hbe]; exact I.fa.2.2.1.rd) I.fa.1.rd hn6 rfl (by omega) hle rfl) fun Al W p57 c57 I => zk [17] I fun I => zo 18 I fun I => zn I fun Al W I => zret I fun Al W I => ⟨p57, c57, rfl, I.fa.1.mono (by omega), I.below⟩
 refine zb I 36 (decide ((((dig B32 T).length : Nat) : Int) > 0)) (false) (f36) fun Al W I => zd [1] I fun Al W I => zk [0, 1, 2] I fun I => x0y 3 I _ (fun _ _ _ _ => k0s .i64 (0) .i64 (f.E : Int) (((T / P : Nat) : Int)) (Int.natCast_nonneg f.E) ((by first | exact HSHR.out | (rw [hT0.1 (by have := oFa f36; omega)]; exact HSHR0.out)))) fun I => zkb 4 I (((T / P : Nat) : Int) == 1) ((T / P == 1)) ((by exact n0e _)) fun I => zk [5, 6, 7] I fun I => x0y 8 I _ (fun _ _ _ _ => m0q .i64 (1) .i64 (f.E : Int) ((P : Int)) (Int.natCast_nonneg f.E) ((HSH.out))) fun I => zki 9 I .i64 ((P : Int) - 1) (((P - 1 : Nat) : Int)) ((by rw [show ((P : Int) - 1) = ((P - 1 : Nat) : Int) by omega]; exact iwo)) fun I => x0y 10 I _ (fun _ _ _ _ => h0d .i64 (0) (((P - 1 : Nat) : Int)) (((T % P : Nat) : Int)) ((by first | exact HAND.out (by omega) | (rw [hT0.1 (by have := oFa f36; omega)]; exact HAND0.out (by omega))))) fun I => zk [11, 12, 13, 14] I fun I => zo 15 I fun I => zqo I (fun Al W I => have hzW := I.bel.size; sshl p33 _ c33 T f.F (T * 2 ^ f.F) _ W I.fa.1.rd rfl (by omega) (by omega) rfl rfl) fun Al W p56 c56 I => zo 16 I fun I => zqo I (fun Al W I => have hzW := I.bel.size; ssub p6 p56 _ _ c6 c56 (be L) (T * 2 ^ f.F) (be L - T * 2 ^ f.F) W (by rw [← hbe]; exact I.fa.2.2.1.rd) I.fa.1.rd hn6 rfl (by omega) hle rfl) fun Al W p57 c57 I => zk [17] I fun I => zo 18 I fun I => zn I fun Al W I => zret I fun Al W I => ⟨p57, c57, rfl, I.fa.1.mono (by omega), I.below⟩
structure Rin where
 g : Bool
 p : OA
 c : Nat
 xs : List Nat
 q : OA
 d : Nat
 ys : List Nat
 e : Int
structure InR (w : World) (a : Rin) : Prop where
 r1 : Rd w .u32 a.p a.xs
 l1 : a.xs.length ≤ 9223372036854775807
 b1 : ∀ x ∈ a.xs, x < B32
 r2 : Rd w .u32 a.q a.ys
 l2 : a.ys.length ≤ 9223372036854775807
 b2 : ∀ x ∈ a.ys, x < B32
theorem InR.past {w w' : World} {a : Rin} (h : InR w a) (hb : Below w.heap.size w w') : InR w' a := ⟨h.r1.past hb, h.l1, h.b1, h.r2.past hb, h.l2, h.b2⟩
def e0n (a : Rin) : Int := if a0w a.xs ≠ 0 then a0w a.xs else if a0w a.ys ≠ 0 then a0w a.ys else if a.ys.length = 0 ∨ a.e < -20000 ∨ 20000 < a.e then 3 else 0
def b0y (a : Rin) (g : Gd) (way : Int) : Int := if e0n a ≠ 0 then e0n a else if errG g ≠ 0 then errG g else if way < 1 ∨ 5 < way then 6 else 0
def p1m : Pl := ⟨false, 0, 0, false, false, false⟩
def i0y (a : Rin) (g : Gd) (way : Int) : Pl := if b0y a g way = 0 then a0u a.g (val B32 a.xs) (val B32 a.ys) a.e g way else p1m
def v0e (w : World) (d : Pl) (er : Int) (en : Ending) (w' : World) : Prop :=
 ∃ p c, en = .returned (.tuple #[.agg #[.bool d.neg, .slice p (dig B32 d.d).length c, .int .i64 d.pow, .bool d.exact, .bool d.over, .bool d.under], .int .i64 er]) ∧ Own w' w.heap.size .u32 139 p c (dig B32 d.d) ∧ Below w.heap.size w w'
theorem d0b {w wk : World} {b : Nat} {er : Int} {v3 : Bool} {d : Pl} (hd : d = ⟨false, 0, 0, v3, false, false⟩) (hs : Below w.heap.size w wk) (hB : w.heap.size ≤ b) :
 v0e w d er (.returned (.tuple #[.agg #[.bool false, .slice none 0 0, .int .i64 0, .bool v3, .bool false, .bool false], .int .i64 er]))
  ((((((wk.setCell ⟨b, 0, none⟩ (.bool false)).setCell ⟨b, 1, none⟩ (.slice none 0 0)).setCell ⟨b, 2, none⟩ (.int .i64 0)).setCell ⟨b, 3, none⟩ (.bool v3)).setCell ⟨b, 4, none⟩ (.bool false)).setCell ⟨b, 5, none⟩ (.bool false)) := by
 subst hd
 exact ⟨none, 0, by rw [a0d]; rfl, by simp only [a0d]; exact Own.nil _ _ _ _, hs.trans ((p0q wk b _ _ _ _ _ _).below hB)⟩
theorem q0u {w wk : World} {b base : Nat} {er : Int} {d : Pl} {p : OA} {c : Nat} (hs : Below w.heap.size w wk) (ho : Own wk base .u32 139 p c (dig B32 d.d)) (hb : w.heap.size ≤ base) (hB : w.heap.size ≤ b) (hne : p.isSome = true → blk p ≠ b) :
 v0e w d er (.returned (.tuple #[.agg #[.bool d.neg, .slice p (dig B32 d.d).length c, .int .i64 d.pow, .bool d.exact, .bool d.over, .bool d.under], .int .i64 er]))
  ((((((wk.setCell ⟨b, 0, none⟩ (.bool d.neg)).setCell ⟨b, 1, none⟩ (.slice p (dig B32 d.d).length c)).setCell ⟨b, 2, none⟩ (.int .i64 d.pow)).setCell ⟨b, 3, none⟩ (.bool d.exact)).setCell ⟨b, 4, none⟩ (.bool d.over)).setCell ⟨b, 5, none⟩ (.bool d.under)) :=
 ⟨p, c, rfl, (ho.only (p0q wk b _ _ _ _ _ _) hne).mono hb, hs.trans ((p0q wk b _ _ _ _ _ _).below hB)⟩
theorem s0z (a : Rin) (g : Gd) (way : Int) (w : World) (ha : InR w a) :
 Calls Tryz.prog 50 #[.agg #[.bool a.g, .slice a.p a.xs.length a.c, .slice a.q a.ys.length a.d, .int .i64 a.e], .agg #[.int .i64 g.rad, .int .i64 g.digs, .int .i64 g.lo, .int .i64 g.hi, .bool g.grad], .int .i64 way] w (v0e w (i0y a g way) (b0y a g way)) := by
 obtain ⟨er, her⟩ : ∃ er, b0y a g way = er := ⟨_, rfl⟩
 obtain ⟨rv, hrv⟩ : ∃ rv, i0y a g way = rv := ⟨_, rfl⟩
 rw [her, hrv]
 have HER := lHd her
 have HRV := lHd hrv
 clear her hrv
 have hz0 : er ≠ 0 → rv = p1m := fun h => by rw [← HRV.out]; unfold i0y; rw [HER.out, if_neg h]
 have HZ0 := lHd hz0
 clear hz0
 have HCG := fun W => lHd (q0q g W)
 have HCX := fun W (h : Rd W .u32 a.p a.xs) => lHd (g0l a.p a.xs.length a.c a.xs W h rfl ha.l1)
 have HCY := fun W (h : Rd W .u32 a.q a.ys) => lHd (g0l a.q a.ys.length a.d a.ys W h rfl ha.l2)
 obtain ⟨e1, he1⟩ : ∃ e1, a0w a.xs = e1 := ⟨_, rfl⟩
 obtain ⟨e2, he2⟩ : ∃ e2, a0w a.ys = e2 := ⟨_, rfl⟩
 obtain ⟨e3, he3⟩ : ∃ e3, errG g = e3 := ⟨_, rfl⟩
 rw [he1] at HCX
 rw [he2] at HCY
 rw [he3] at HCG
 have HE1 := lHd he1
 have HE2 := lHd he2
 have HE3 := lHd he3
 clear he1 he2 he3
 go_enter Tryz.func50, Tryz.ntmps50
 go_wp2_with fail
 refine k1w (fun W1 hb1 hz1 Q G R L => ?_)
 replace ha := ha.past hb1
 have hs1 := hb1
 go_loopg [9, 10, 18] 2 (fun gk s9 s10 iv wr => ∃ i : Nat, iv = .int .i64 i ∧ gk + i = 2 ∧ Below W1.heap.size W1 wr ∧ Hid (i = 0 ∨ (i = 1 ∧ e1 = 0) ∨ (i = 2 ∧ e1 = 0 ∧ e2 = 0)))
 case atStart => exact ⟨0, rfl, rfl, Below.refl _ _, .inl rfl⟩
 case round =>
  obtain ⟨i, rfl, hgk, hb, HI⟩ := hrel
  have hs2 := hs1.trans (hb.mono hs1.size)
  replace Q := Q.past hb
  replace G := G.past hb
  replace R := R.past hb
  replace L := L.past hb
  replace ha := ha.past hb
  rcases HI.out with rfl | ⟨rfl, h10⟩ | ⟨rfl, h10, h20⟩
  · clear HI
    obtain ⟨L_0, L_1⟩ := L.e2
    go_wp2_with fail
    clear L_0 L_1
    ((with_reducible refine ((HCX _ ha.r1).out).mono ?_))
    rintro e3 w3 ⟨rfl, hb3⟩
    replace Q := Q.past hb3
    replace G := G.past hb3
    replace R := R.past hb3
    replace L := L.past hb3
    replace ha := ha.past hb3
    have hs3 := hs2.trans (hb3.mono hs2.size)
    by_cases h1 : e1 = 0
    · subst h1
      obtain ⟨L_0, L_1⟩ := L.e2
      go_wp2_with fail
      clear L_0 L_1
      go_roundg 1
      case measure => omega
      case rel => exact ⟨1, by go_num, rfl, hb.trans (hb3.mono hb.size), by unfold Hid; simp⟩
    · have t1 : (e1 == 0) = false := bFn h1
      have t2 : (e1 != 0) = true := by rw [bne, t1]; rfl
      have H1 := lHd h1
      clear h1
      obtain ⟨R_0, R_1, R_2, R_3, R_4, R_5⟩ := R.e6
      have R_f0 := R.f 0
      have R_f1 := R.f 1
      have R_f2 := R.f 2
      have R_f3 := R.f 3
      have R_f4 := R.f 4
      have R_f5 := R.f 5
      go_wp2_with fail
      clear R_0 R_1 R_2 R_3 R_4 R_5 R_f0 R_f1 R_f2 R_f3 R_f4 R_f5
      obtain ⟨R_0, R_1, R_2, R_3, R_4, R_5⟩ := R.e6
      refine bodyPost_ret (v := .tuple #[.agg #[.bool false, .slice none 0 0, .int .i64 0, .bool false, .bool false, .bool false], .int .i64 e1]) (by simp [results, Tryz.results50, go_sem, R_0, R_1, R_2, R_3, R_4, R_5]) rfl ?_
      have e0 : er = e1 := by rw [← HER.out]; unfold b0y e0n; rw [HE1.out, if_pos H1.out, if_pos H1.out]
      subst e0
      exact d0b (HZ0.out H1.out) hs3 (by omega)
  · subst h10
    clear HI
    obtain ⟨L_0, L_1⟩ := L.e2
    go_wp2_with fail
    clear L_0 L_1
    ((with_reducible refine ((HCY _ ha.r2).out).mono ?_))
    rintro e3 w3 ⟨rfl, hb3⟩
    replace Q := Q.past hb3
    replace G := G.past hb3
    replace R := R.past hb3
    replace L := L.past hb3
    replace ha := ha.past hb3
    have hs3 := hs2.trans (hb3.mono hs2.size)
    by_cases h1 : e2 = 0
    · subst h1
      obtain ⟨L_0, L_1⟩ := L.e2
      go_wp2_with fail
      clear L_0 L_1
      go_roundg 0
      case measure => omega
      case rel => exact ⟨2, by go_num, rfl, hb.trans (hb3.mono hb.size), by unfold Hid; simp⟩
    · have t1 : (e2 == 0) = false := bFn h1
      have t2 : (e2 != 0) = true := by rw [bne, t1]; rfl
      have H1 := lHd h1
      clear h1
      obtain ⟨R_0, R_1, R_2, R_3, R_4, R_5⟩ := R.e6
      have R_f0 := R.f 0
      have R_f1 := R.f 1
      have R_f2 := R.f 2
      have R_f3 := R.f 3
      have R_f4 := R.f 4
      have R_f5 := R.f 5
      go_wp2_with fail
      clear R_0 R_1 R_2 R_3 R_4 R_5 R_f0 R_f1 R_f2 R_f3 R_f4 R_f5
      obtain ⟨R_0, R_1, R_2, R_3, R_4, R_5⟩ := R.e6
      refine bodyPost_ret (v := .tuple #[.agg #[.bool false, .slice none 0 0, .int .i64 0, .bool false, .bool false, .bool false], .int .i64 e2]) (by simp [results, Tryz.results50, go_sem, R_0, R_1, R_2, R_3, R_4, R_5]) rfl ?_
      have e00 : e0n a = e2 := by unfold e0n; rw [HE1.out, HE2.out, if_neg (by simp), if_pos H1.out]
      have e0 : er = e2 := by rw [← HER.out]; unfold b0y; rw [e00, if_pos H1.out]
      subst e0
      exact d0b (HZ0.out H1.out) hs3 (by omega)
  · subst h10 h20
    clear HI
    have HR0 : Hid (e0n a = if a.ys.length = 0 ∨ a.e < -20000 ∨ 20000 < a.e then 3 else 0) := by
     show e0n a = _
     unfold e0n
     rw [HE1.out, HE2.out, if_neg (by simp), if_neg (by simp)]
    by_cases hy : a.ys.length = 0
    · have t1 : ((a.ys.length : Int) == 0) = true := by rw [hy]; rfl
      have e0 : er = 3 := by
       have e00 : e0n a = 3 := HR0.out.trans (if_pos (.inl hy))
       rw [← HER.out]; unfold b0y; rw [e00, if_pos (by omega)]
      subst e0
      clear hy
      obtain ⟨L_0, L_1⟩ := L.e2
      obtain ⟨Q_0, Q_1, Q_2, Q_3⟩ := Q.e4
      go_upto_region 9 with (fail)
      clear L_0 L_1 Q_0 Q_1 Q_2 Q_3
      obtain ⟨R_0, R_1, R_2, R_3, R_4, R_5⟩ := R.e6
      have R_f0 := R.f 0
      have R_f1 := R.f 1
      have R_f2 := R.f 2
      have R_f3 := R.f 3
      have R_f4 := R.f 4
      have R_f5 := R.f 5
      go_wp2_with fail
      clear R_0 R_1 R_2 R_3 R_4 R_5 R_f0 R_f1 R_f2 R_f3 R_f4 R_f5
      obtain ⟨R_0, R_1, R_2, R_3, R_4, R_5⟩ := R.e6
      refine bodyPost_ret (v := .tuple #[.agg #[.bool false, .slice none 0 0, .int .i64 0, .bool false, .bool false, .bool false], .int .i64 3]) (by simp [results, Tryz.results50, go_sem, R_0, R_1, R_2, R_3, R_4, R_5]) rfl ?_
      exact d0b (HZ0.out (by omega)) hs2 (by omega)
    · have t1 : ((a.ys.length : Int) == 0) = false := bFn (by omega)
      by_cases hf : a.e < -20000 ∨ 20000 < a.e
      · have t2 := f0i hf
        have e0 : er = 3 := by
         have e00 : e0n a = 3 := HR0.out.trans (if_pos (.inr hf))
         rw [← HER.out]; unfold b0y; rw [e00, if_pos (by omega)]
        subst e0
        clear hy hf
        obtain ⟨L_0, L_1⟩ := L.e2
        obtain ⟨Q_0, Q_1, Q_2, Q_3⟩ := Q.e4
        go_wp2_with fail
        clear L_0 L_1 Q_0 Q_1 Q_2 Q_3
        ((with_reducible refine ((c0s _ _ _ (by omega))).mono ?_))
        rintro _ _ ⟨rfl, rfl⟩
        obtain ⟨R_0, R_1, R_2, R_3, R_4, R_5⟩ := R.e6
        have R_f0 := R.f 0
        have R_f1 := R.f 1
        have R_f2 := R.f 2
        have R_f3 := R.f 3
        have R_f4 := R.f 4
        have R_f5 := R.f 5
        go_wp2_with fail
        clear R_0 R_1 R_2 R_3 R_4 R_5 R_f0 R_f1 R_f2 R_f3 R_f4 R_f5
        obtain ⟨R_0, R_1, R_2, R_3, R_4, R_5⟩ := R.e6
        refine bodyPost_ret (v := .tuple #[.agg #[.bool false, .slice none 0 0, .int .i64 0, .bool false, .bool false, .bool false], .int .i64 3]) (by simp [results, Tryz.results50, go_sem, R_0, R_1, R_2, R_3, R_4, R_5]) rfl ?_
        exact d0b (HZ0.out (by omega)) hs2 (by omega)
      · have t2 := h0t (n := a.e) (m := 20000) (by omega) (by omega)
        have HR1 : Hid (e0n a = 0) := HR0.out.trans (if_neg (by omega))
        have he1 : -20000 ≤ a.e := by omega
        have he2 : a.e ≤ 20000 := by omega
        have hy1 : 0 < a.ys.length := by omega
        clear hy hf
        obtain ⟨L_0, L_1⟩ := L.e2
        obtain ⟨Q_0, Q_1, Q_2, Q_3⟩ := Q.e4
        go_wp2_with fail
        clear L_0 L_1 Q_0 Q_1 Q_2 Q_3
        ((with_reducible refine ((c0s _ _ _ (by omega))).mono ?_))
        rintro _ _ ⟨rfl, rfl⟩
        obtain ⟨G_0, G_1, G_2, G_3, G_4⟩ := G.e5
        go_wp2_with fail
        clear G_0 G_1 G_2 G_3 G_4
        ((with_reducible refine ((HCG _).out).mono ?_))
        rintro e4 w4 ⟨rfl, hb4⟩
        replace Q := Q.past hb4
        replace G := G.past hb4
        replace R := R.past hb4
        replace L := L.past hb4
        replace ha := ha.past hb4
        have hs4 := hs2.trans (hb4.mono hs2.size)
        by_cases h3 : e3 = 0
        · subst h3
          by_cases hw : way < 1 ∨ 5 < way
          · have t4 := g0d hw
            have e0 : er = 6 := by rw [← HER.out]; unfold b0y; rw [HR1.out, HE3.out, if_neg (by simp), if_neg (by simp), if_pos hw]
            subst e0
            clear hw
            go_wp2_with fail
            ((with_reducible refine (s0v way _).mono ?_))
            rintro e5 w5 ⟨rfl, hb5⟩
            replace Q := Q.past hb5
            replace G := G.past hb5
            replace R := R.past hb5
            replace L := L.past hb5
            replace ha := ha.past hb5
            have hs5 := hs4.trans (hb5.mono hs4.size)
            obtain ⟨R_0, R_1, R_2, R_3, R_4, R_5⟩ := R.e6
            have R_f0 := R.f 0
            have R_f1 := R.f 1
            have R_f2 := R.f 2
            have R_f3 := R.f 3
            have R_f4 := R.f 4
            have R_f5 := R.f 5
            go_wp2_with fail
            clear R_0 R_1 R_2 R_3 R_4 R_5 R_f0 R_f1 R_f2 R_f3 R_f4 R_f5
            obtain ⟨R_0, R_1, R_2, R_3, R_4, R_5⟩ := R.e6
            refine bodyPost_ret (v := .tuple #[.agg #[.bool false, .slice none 0 0, .int .i64 0, .bool false, .bool false, .bool false], .int .i64 6]) (by simp [results, Tryz.results50, go_sem, R_0, R_1, R_2, R_3, R_4, R_5]) rfl ?_
            exact d0b (HZ0.out (by omega)) hs5 (by omega)
          · have t4 := k0b (k := way) (by omega) (by omega)
            have e0 : er = 0 := by rw [← HER.out]; unfold b0y; rw [HR1.out, HE3.out, if_neg (by simp), if_neg (by simp), if_neg hw]
            subst e0
            have hw1 : 1 ≤ way := by omega
            have hw2 : way ≤ 5 := by omega
            clear hw
            go_wp2_with fail
            ((with_reducible refine (s0v way _).mono ?_))
            rintro e5 w5 ⟨rfl, hb5⟩
            replace Q := Q.past hb5
            replace G := G.past hb5
            replace R := R.past hb5
            replace L := L.past hb5
            replace ha := ha.past hb5
            have hs5 := hs4.trans (hb5.mono hs4.size)
            obtain ⟨ex, lx⟩ := e0i ha.b1 HE1.out
            obtain ⟨ey, ly⟩ := e0i ha.b2 HE2.out
            have HRV2 : Hid (rv = a0u a.g (val B32 a.xs) (val B32 a.ys) a.e g way) := by
             show rv = _
             rw [← HRV.out]; unfold i0y; rw [HER.out, if_pos rfl]
            by_cases hx : a.xs.length = 0
            · have t5 : ((a.xs.length : Int) == 0) = true := by rw [hx]; rfl
              have hxs : a.xs = [] := List.eq_nil_of_length_eq_zero hx
              have hrv : rv = ⟨false, 0, 0, true, false, false⟩ := by rw [HRV2.out, hxs]; rfl
              have HRV3 := lHd hrv
              clear hx hxs hrv ex ey
              obtain ⟨Q_0, Q_1, Q_2, Q_3⟩ := Q.e4
              obtain ⟨R_0, R_1, R_2, R_3, R_4, R_5⟩ := R.e6
              have R_f0 := R.f 0
              have R_f1 := R.f 1
              have R_f2 := R.f 2
              have R_f3 := R.f 3
              have R_f4 := R.f 4
              have R_f5 := R.f 5
              go_wp2_with fail
              clear Q_0 Q_1 Q_2 Q_3 R_0 R_1 R_2 R_3 R_4 R_5 R_f0 R_f1 R_f2 R_f3 R_f4 R_f5
              obtain ⟨R_0, R_1, R_2, R_3, R_4, R_5⟩ := R.e6
              refine bodyPost_ret (v := .tuple #[.agg #[.bool false, .slice none 0 0, .int .i64 0, .bool true, .bool false, .bool false], .int .i64 0]) (by simp [results, Tryz.results50, go_sem, R_0, R_1, R_2, R_3, R_4, R_5]) rfl ?_
              exact d0b HRV3.out hs5 (by omega)
            · have t5 : ((a.xs.length : Int) == 0) = false := bFn (by omega)
              have hnum : 0 < val B32 a.xs := by
               rcases Nat.eq_zero_or_pos (val B32 a.xs) with h | h
               · rw [h, a0d] at ex; rw [ex] at hx; simp at hx
               · exact h
              have hden : 0 < val B32 a.ys := by
               rcases Nat.eq_zero_or_pos (val B32 a.ys) with h | h
               · rw [h, a0d] at ey; rw [ey] at hy1; simp at hy1
               · exact h
              generalize val B32 a.xs = num at *
              generalize val B32 a.ys = den at *
              have GG := c0m HE3.out
              have wp := b0m g
              have hd1 := GG.d1
              have HF := fun W h1 h2 => lHd (q0t a.g a.p a.q a.c a.d num den a.e g way _ W h1 h2 (by rw [← ex]; omega) (by rw [← ey]; omega) hnum hden ⟨by omega, by omega⟩ GG hw1 hw2 (q0d hnum hden a.e (by omega) (by omega)))
              have hrv : fitK a.g num den a.e g way (theK num den a.e (wid g) g.digs.toNat) = rv := by rw [HRV2.out]; unfold a0u; rw [if_neg (by omega)]
              rw [hrv, ← ex, ← ey] at HF
              clear hrv ex ey hx GG hd1 wp hnum hden
              obtain ⟨Q_0, Q_1, Q_2, Q_3⟩ := Q.e4
              obtain ⟨G_0, G_1, G_2, G_3, G_4⟩ := G.e5
              go_wp2_with fail
              clear Q_0 Q_1 Q_2 Q_3 G_0 G_1 G_2 G_3 G_4
              ((with_reducible refine ((HF _ ha.r1 ha.r2).out).mono ?_))
              rintro e6 w6 ⟨p6, c6, rfl, ho6, hb6⟩
              replace Q := Q.past hb6
              replace G := G.past hb6
              replace R := R.past hb6
              replace L := L.past hb6
              replace ha := ha.past hb6
              have hs6 := hs5.trans (hb6.mono hs5.size)
              obtain ⟨R_0, R_1, R_2, R_3, R_4, R_5⟩ := R.e6
              have R_f0 := R.f 0
              have R_f1 := R.f 1
              have R_f2 := R.f 2
              have R_f3 := R.f 3
              have R_f4 := R.f 4
              have R_f5 := R.f 5
              go_wp2_with fail
              clear R_0 R_1 R_2 R_3 R_4 R_5 R_f0 R_f1 R_f2 R_f3 R_f4 R_f5
              obtain ⟨R_0, R_1, R_2, R_3, R_4, R_5⟩ := R.e6
              refine bodyPost_ret (v := .tuple #[.agg #[.bool rv.neg, .slice p6 (dig B32 rv.d).length c6, .int .i64 rv.pow, .bool rv.exact, .bool rv.over, .bool rv.under], .int .i64 0]) (by simp [results, Tryz.results50, go_sem, R_0, R_1, R_2, R_3, R_4, R_5]) rfl ?_
              have hz5 := hs5.size
              exact q0u hs6 ho6 hz5 (by omega) (fun h => by have := (ho6.blk_lt h).1; have := hb5.size; have := hb4.size; have := hb.size; omega)
        · have t1 : (e3 == 0) = false := bFn h3
          have t2 : (e3 != 0) = true := by rw [bne, t1]; rfl
          have H3 := lHd h3
          clear h3
          obtain ⟨R_0, R_1, R_2, R_3, R_4, R_5⟩ := R.e6
          have R_f0 := R.f 0
          have R_f1 := R.f 1
          have R_f2 := R.f 2
          have R_f3 := R.f 3
          have R_f4 := R.f 4
          have R_f5 := R.f 5
          go_wp2_with fail
          clear R_0 R_1 R_2 R_3 R_4 R_5 R_f0 R_f1 R_f2 R_f3 R_f4 R_f5
          obtain ⟨R_0, R_1, R_2, R_3, R_4, R_5⟩ := R.e6
          refine bodyPost_ret (v := .tuple #[.agg #[.bool false, .slice none 0 0, .int .i64 0, .bool false, .bool false, .bool false], .int .i64 e3]) (by simp [results, Tryz.results50, go_sem, R_0, R_1, R_2, R_3, R_4, R_5]) rfl ?_
          have e0 : er = e3 := by rw [← HER.out]; unfold b0y; rw [HR1.out, HE3.out, if_neg (by simp), if_pos H3.out]
          subst e0
          exact d0b (HZ0.out H3.out) hs4 (by omega)
theorem t0a (k : Int) (w : World) :
 Calls Tryz.prog 35 #[.int .i64 k] w fun e w' => e = .returned (.bool (wayB k)) ∧ w = w' := by
 by_cases h1 : 1 ≤ k
 · by_cases h2 : k ≤ 5
   · rw [k0b h1 h2]
     go_enter Tryz.func35, Tryz.ntmps35
     go_wp2
     go_ret
     exact ⟨rfl, rfl⟩
   · rw [g0d (by omega)]
     go_enter Tryz.func35, Tryz.ntmps35
     go_wp2
     go_ret
     exact ⟨rfl, rfl⟩
 · rw [g0d (by omega)]
   go_enter Tryz.func35, Tryz.ntmps35
   go_wp2
   go_ret
   exact ⟨rfl, rfl⟩
end Go.Proofs.YtgbbhlginbmghaaGreatDoor
namespace Go.Slip
theorem h1e {d r : Nat} (h0 : 0 < d) (h : d < 65536) : tz (d + 65536 * r) = tz d := by
 obtain ⟨h1, h2⟩ := c0t d h0
 have hle : tz d < 16 := by
  rcases Nat.lt_or_ge (tz d) 16 with h3 | h3
  · exact h3
  · have h4 : 2 ^ 16 ≤ 2 ^ tz d := Nat.pow_le_pow_right (by omega) h3
    have h5 : 0 < d / 2 ^ tz d := by
     rcases Nat.eq_zero_or_pos (d / 2 ^ tz d) with h | h
     · rw [h] at h2; simp at h2
     · exact h
    have h6 := Nat.mul_le_mul_left (2 ^ tz d) h5
    simp only [Nat.succ_eq_add_one, Nat.zero_add, Nat.mul_one] at h6
    omega
 obtain ⟨t, ht⟩ : ∃ t, t = tz d := ⟨_, rfl⟩
 rw [← ht] at h1 h2 hle ⊢
 obtain ⟨s, hs⟩ : ∃ s, 16 = t + (s + 1) := ⟨15 - t, by omega⟩
 have e : d + 65536 * r = (d / 2 ^ t + 2 * (2 ^ s * r)) * 2 ^ t := by
  have e1 : (65536 : Nat) = 2 ^ t * (2 ^ s * 2) := by
   rw [show (65536 : Nat) = 2 ^ 16 by decide, hs, Nat.pow_add, Nat.pow_succ]
  rw [e1, Nat.add_mul]
  conv => lhs; rw [← h1]
  grind
 rw [e]
 exact v0y _ _ (by omega)
theorem h1f {xs : List Nat} {a i : Nat} (ha : val B16 xs = a) (hz : ∀ j, j < i → dg xs j = 0) (hd : 0 < dg xs i) (hl : dg xs i < 65536) : tz a = 16 * i + tz (dg xs i) := by
 have h1 := b0a B16 xs i
 have h2 : val B16 (xs.take i) = 0 := by
  have : xs.take i = List.replicate (xs.take i).length 0 := by
   apply c0l
   · simp
   · intro t ht
     simp only [List.length_take] at ht
     rw [e0z (by omega), c0v, hz t (by omega)]
  rw [this, b0v]
 rw [h2, f0x, Nat.zero_add] at h1
 have e : a = (dg xs i + 65536 * val B16 (xs.drop (i + 1))) * 2 ^ (16 * i) := by
  rw [← ha, h1, Nat.pow_mul, show (2 : Nat) ^ 16 = B16 by decide, Nat.mul_comm]
  rfl
 rw [e, w0a (by omega), h1e hd hl]
 omega
def h0m (xs : List Nat) (j n : Nat) : Prop := n = 16 * j ∧ ∀ i, i < j → dg xs i = 0
theorem h0m.start (xs : List Nat) : h0m xs 0 0 := ⟨rfl, fun i hi => by omega⟩
theorem h0m.step {xs : List Nat} {j n : Nat} (h : h0m xs j n) (hz : dg xs j = 0) : h0m xs (j + 1) (n + 16) :=
 ⟨by have := h.1; omega, fun i hi => by
   by_cases he : i = j
   · subst he; exact hz
   · exact h.2 i (by omega)⟩
theorem h0m.lt {xs : List Nat} {j n m : Nat} (h : h0m xs j n) (hv : val B16 xs = m) (h0 : 0 < m) : j < xs.length := by
 rcases Nat.lt_or_ge j xs.length with h1 | h1
 · exact h1
 · have := m0g (B := B16) (xs := xs) (fun i hi => h.2 i (by omega))
   omega
def n0f (m d n : Nat) : Prop := ∃ t, n + tz d = t ∧ t = tz m ∧ 0 < d
theorem n0f.start {xs : List Nat} {j n m : Nat} (h : h0m xs j n) (hv : val B16 xs = m) (h0 : 0 < dg xs j) (hl : dg xs j < 65536) : n0f m (dg xs j) n :=
 ⟨_, rfl, by rw [h1f hv h.2 h0 hl, h.1], h0⟩
theorem n0f.step {m d n : Nat} (h : n0f m d n) (he : d % 2 = 0) : n0f m (d / 2) (n + 1) := by
 obtain ⟨t, h1, h2, h3⟩ := h
 rw [p0p h3 he] at h1
 exact ⟨t, by omega, h2, by omega⟩
theorem n0f.done {m d n : Nat} (h : n0f m d n) (he : d % 2 = 1) : n = tz m := by
 obtain ⟨t, h1, h2, h3⟩ := h
 rw [r0v he] at h1
 omega
end Go.Slip
namespace Go.Proofs.YtgbbhlginbmghaaGreatDoor
open Go.RowKit Go.Slip
theorem stay {P : Program} {f : FuncId} {args : Array Value} {w : World} {E : Ending} (h : Calls P f args w fun e w' => e = E ∧ w = w') : Calls P f args w fun e w' => e = E ∧ Below w.heap.size w w' :=
 h.mono fun e w' ⟨h1, h2⟩ => ⟨h1, by subst h2; exact Below.refl _ _⟩
theorem d1e {a b : Nat} (h : cmpN a b = 0) : a = b := by
 unfold cmpN at h
 split at h
 · omega
 · split at h <;> omega
theorem d1f {n : Nat} (x : Nat) (hl : (dig B32 x).length ≤ n) : tz x ≤ 32 * n := by
 rcases Nat.eq_zero_or_pos x with h | h
 · rw [h, u0e]; omega
 · have h1 := (c0t x h).1
   have h2 := (a0h a0a x n).1 hl
   have h3 : 2 ^ tz x ≤ x := by
    have : 0 < x / 2 ^ tz x := by
     rcases Nat.eq_zero_or_pos (x / 2 ^ tz x) with h4 | h4
     · rw [h4, Nat.mul_zero] at h1; omega
     · exact h4
    have h5 := Nat.mul_le_mul_left (2 ^ tz x) this
    omega
   rw [show B32 = 2 ^ 32 from rfl, ← Nat.pow_mul] at h2
   have h6 := (Nat.pow_lt_pow_iff_right (a := 2) (by omega)).1 (Nat.lt_of_le_of_lt h3 h2)
   omega
theorem q1v (x : Nat) (hl : (dig B32 x).length ≤ 1000) : tz x ≤ 32000 := d1f x hl
def k1f (w : World) (base : Nat) (d : Dc) (en : Ending) (w' : World) : Prop :=
 ∃ p c, en = .returned (.tuple #[.int .i64 (d.cls : Int), .slice p (dig B32 d.m).length c, .int .i64 d.p]) ∧ Own w' base .u32 139 p c (dig B32 d.m) ∧ Below w.heap.size w w'
theorem b0i {w w' : World} {base : Nat} {k : Nat} {en : Ending} (h : en = .returned (.tuple #[.int .i64 (k : Int), .slice none 0 0, .int .i64 0])) (hb : Below w.heap.size w w') : k1f w base ⟨k, 0, 0⟩ en w' := by
 refine ⟨none, 0, ?_, ?_, hb⟩
 · rw [h, a0d]; rfl
 · rw [a0d]; exact Own.nil _ _ _ _
theorem d1g (f : Fm) (g : Bool) (e x : Nat) (p : OA) (c base : Nat) (w : World) (G : b0z f) (hp : Own w base .u32 139 p c (dig B32 x)) (hb : base ≤ w.heap.size) (he : e < 2 ^ f.E) (hx : x < 2 ^ f.F) :
 Calls Tryz.prog 133 #[(fV f), .agg #[.bool g, .int .i64 (e : Int), .slice p (dig B32 x).length c]] w (k1f w base (f.dec g e x)) := by
 have z2 := G.e2
 have z3 := G.f2
 have z4 := G.lo
 have hxl := a0q hx (k := 2) (by omega)
 have hx0 := a0g a0a x
 have h0T : 0 < 2 ^ f.E := Nat.pow_pos (by omega)
 have h0T2 : 2 ^ f.E ≤ 2 ^ 15 := Nat.pow_le_pow_right (by omega) (by omega)
 have HSH := lHd (q0b (E := f.E) (by omega))
 have hl63 : (dig B32 (2 ^ 63)).length ≤ 2 := a0q (n := 64) (by omega) (by omega)
 have hlF : (dig B32 (2 ^ f.F)).length ≤ 3 := a0q (n := f.F + 1) (Nat.pow_lt_pow_right (by omega) (by omega)) (by omega)
 have hcm : cmpN x (2 ^ 63) = 0 ↔ x = 2 ^ 63 := ⟨d1e, fun h => by rw [h]; unfold cmpN; simp⟩
 have hbl : blen x < 64 ↔ x < 2 ^ 63 := by have := a0z x 63; omega
 have r2 : (f.g.rad == 16) = true ↔ f.fam = 2 := by have := G.rad; rw [beq_iff_eq]; split at this <;> omega
 have r1 : f.inf = true ↔ f.fam = 1 := by unfold Fm.inf; rw [beq_iff_eq]
 have r3 : f.res = true ↔ f.fam = 3 := by unfold Fm.res; rw [beq_iff_eq]
 have rh : f.fam ≠ 2 → (f.hid = true ↔ f.ext = false) := fun h => by unfold Fm.hid; cases f.ext <;> simp [h]
 have rh2 : f.fam ≠ 2 → (¬ f.hid = true ↔ f.ext = true) := fun h => by rw [rh h]; cases f.ext <;> simp
 have rf := G.fam
 have d2 : f.fam = 2 → f.dec g e x = ⟨2, x, f.g.lo + e⟩ := fun h => by unfold Fm.dec; rw [if_pos h]
 have d3 : f.fam = 1 → e = 2 ^ f.E - 1 → (f.ext = false ∧ x = 0 ∨ f.ext = true ∧ x = 2 ^ 63) → f.dec g e x = ⟨3, 0, 0⟩ := fun h h' h'' => by unfold Fm.dec; rw [if_neg (by omega), if_pos ⟨h, h'⟩, if_pos h'']
 have d4 : f.fam = 1 → e = 2 ^ f.E - 1 → ¬ (f.ext = false ∧ x = 0 ∨ f.ext = true ∧ x = 2 ^ 63) → f.dec g e x = ⟨4, 0, 0⟩ := fun h h' h'' => by unfold Fm.dec; rw [if_neg (by omega), if_pos ⟨h, h'⟩, if_neg h'']
 have d5 : f.fam = 3 → e = 0 → f.dec g e x = if g then ⟨5, 0, 0⟩ else ⟨1, 0, 0⟩ := fun h h' => by unfold Fm.dec; rw [if_neg (by omega), if_neg (by omega), if_pos ⟨h, h'⟩]
 have d6 : f.fam = 1 → e ≠ 2 ^ f.E - 1 → e = 0 → f.dec g e x = ⟨2, x, f.g.lo⟩ := fun h h' h'' => by unfold Fm.dec; rw [if_neg (by omega), if_neg (fun k => h' k.2), if_neg (by omega), if_pos h'']
 have d7 : f.fam ≠ 2 → ¬ (f.fam = 1 ∧ e = 2 ^ f.E - 1) → e ≠ 0 → f.dec g e x = if f.ext = false then ⟨2, x + 2 ^ f.F, f.g.lo + e - 1⟩ else if x < 2 ^ 63 then ⟨4, 0, 0⟩ else ⟨2, x, f.g.lo + e - 1⟩ := fun h h' h'' => by unfold Fm.dec; rw [if_neg h, if_neg h', if_neg (fun k => h'' k.2), if_neg h'']
 generalize f.dec g e x = D at *
 generalize 2 ^ f.E = P at *
 have e34 : (((e : Int) == ((P - 1 : Nat) : Int)) = true ↔ e = P - 1) := by rw [beq_iff_eq]; omega
 have e59 : (((e : Int) == 0) = true ↔ e = 0) := by rw [beq_iff_eq]; omega
 let aA : Box := ⟨98, [.v (.int .i64 (f.size : Int)), .v (.int .i64 (f.E : Int)), .v (.int .i64 (f.F : Int)), .v (.int .i64 f.g.rad), .v (.int .i64 f.g.digs), .v (.int .i64 f.g.lo), .v (.int .i64 f.g.hi), .v (.bool f.g.grad), .v (.bool f.hid), .v (.bool f.inf), .v (.bool f.res), .v (.func (.func (ordF f)) #[] #[])], false⟩
 let aB : Box := ⟨197, [.v (.bool g), .v (.int .i64 (e : Int)), .v (.slice p (dig B32 x).length c)], false⟩
 let aC : SV := .v ((fV f))
 let aD : SV := .v (.agg #[.bool g, .int .i64 (e : Int), .slice p (dig B32 x).length c])
 have I := Inv.start w [ownF base .u32 139 p c (dig B32 x)] ⟨hp, True.intro⟩
 refine a0c [.v ((fV f)), .v (.agg #[.bool g, .int .i64 (e : Int), .slice p (dig B32 x).length c])] I Tryz.func133 ?_
 refine zbin I 11 _ (fun _ _ _ _ _ => m0q .i64 (1) .i64 (f.E : Int) ((P : Int)) (by omega) ((HSH.out))) fun Al W I => zi I 12 .i64 ((P : Int) - 1) (((P - 1 : Nat) : Int)) ((by rw [show ((P : Int) - 1) = ((P - 1 : Nat) : Int) by omega]; exact iwo)) fun Al W I => ?_
 rcases bTF (f.g.rad == 16) with f20 | f20
 · refine zb I 20 (f.g.rad == 16) (true) (f20) fun Al W I => zd [] I fun Al W I => zk [0, 1, 2, 3, 4] I fun I => zki 5 I .i64 (f.g.lo + (e : Int)) (f.g.lo + (e : Int)) (iwo) fun I => zk [6, 7, 8] I fun I => zret I (v := fun Al => .tuple #[vI 2, .slice p (dig B32 x).length c, vI (f.g.lo + (e : Int))]) fun Al W I => ?_
   (rw [d2 (r2.1 f20)]; exact ⟨p, c, rfl, I.fa.1, I.below⟩)
 refine zb I 20 (f.g.rad == 16) (false) (f20) fun Al W I => zcut I (some 3000005) (fun fr bx gs => ∃ (U1 : Nat → Value) (sp : Bool), fr = (aC :: aD :: .p 0 0 :: .p 1 0 :: .v (vI 0) :: .v (.slice none 0 0) :: .v (vI 0) :: .v (vI ((P - 1 : Nat) : Int)) :: .v (vI f.g.lo) :: sw U1 9 7 (.v (.bool false) :: sw U1 17 10 (.v (.bool sp) :: sw U1 28 27 (su 2 (sw U1 57 8 (su 2 (sw U1 67 6 (vu :: sw U1 74 13 (vu :: sw U1 88 11 [])))))))) : List SV) ∧ bx = [aA, aB] ∧ gs = [ownF base .u32 139 p c (dig B32 x)] ∧ (sp = true ↔ (f.fam = 1 ∧ e = P - 1)) ∧ (f.fam ≠ 2)) ?_ ?_
 · intro J hJ Al W I
   rcases bTF (f.inf) with f29 | f29
   · refine zb I 29 (f.inf) (true) (f29) fun Al W I => ?_
     rcases bTF ((e : Int) == ((P - 1 : Nat) : Int)) with f34 | f34
     · refine zb I 34 ((e : Int) == ((P - 1 : Nat) : Int)) (true) (f34) fun Al W I => a0j I J fun Al W U I => hJ _ _ _ _ _ ⟨U, true, rfl, rfl, rfl, (by first | exact iff_of_true rfl ⟨r1.1 f29, e34.1 f34⟩ | exact iff_of_false Bool.false_ne_true (fun h => by have := e34.2 h.2; rw [f34] at this; cases this) | exact iff_of_false Bool.false_ne_true (fun h => by have := r1.2 h.1; rw [f29] at this; cases this)), (fun h => by have := r2.2 h; rw [f20] at this; cases this)⟩ (I.pick [0])
     refine zb I 34 ((e : Int) == ((P - 1 : Nat) : Int)) (false) (f34) fun Al W I => a0j I J fun Al W U I => hJ _ _ _ _ _ ⟨U, false, rfl, rfl, rfl, (by first | exact iff_of_true rfl ⟨r1.1 f29, e34.1 f34⟩ | exact iff_of_false Bool.false_ne_true (fun h => by have := e34.2 h.2; rw [f34] at this; cases this) | exact iff_of_false Bool.false_ne_true (fun h => by have := r1.2 h.1; rw [f29] at this; cases this)), (fun h => by have := r2.2 h; rw [f20] at this; cases this)⟩ (I.pick [0])
   refine zb I 29 (f.inf) (false) (f29) fun Al W I => a0j I J fun Al W U I => hJ _ _ _ _ _ ⟨U, false, rfl, rfl, rfl, (by exact iff_of_false Bool.false_ne_true (fun h => by have := r1.2 h.1; rw [f29] at this; cases this)), (fun h => by have := r2.2 h; rw [f20] at this; cases this)⟩ (I.pick [0])
 rintro _ _ _ ⟨U1, sp, rfl, rfl, rfl, hsp, n2⟩ Al W I
 refine zcut I (some 2000027) (fun fr bx gs => ∃ (U2 : Nat → Value) , fr = (aC :: aD :: .p 0 0 :: .p 1 0 :: sw U2 4 3 (.v (vI ((P - 1 : Nat) : Int)) :: .v (vI f.g.lo) :: sw U2 9 7 (.v (.bool false) :: sw U2 17 10 (.v (.bool sp) :: sw U2 28 71 []))) : List SV) ∧ bx = [aA, aB] ∧ gs = [ownF base .u32 139 p c (dig B32 x)] ∧ (D = ⟨2, x, f.g.lo + e - 1⟩)) ?_ ?_
 · intro J hJ Al W I
   rcases bTF sp with rfl | rfl
   · by_cases s37 : f.hid = true
     · by_cases s42 : x = 0
       · obtain ⟨k1, k2⟩ := hsp.1 rfl
         refine zd [] I fun Al W I => zk [0] I fun I => zkb 1 I (f.hid) (true) (s37) fun I => zk [2, 3, 4, 5] I fun I => zkb 6 I ((((dig B32 x).length : Nat) : Int) == 0) (true) (beq_iff_eq.2 (by omega)) fun I => zk [7, 8, 9, 10, 11, 12, 13, 14, 15, 16, 17, 18, 19] I fun I => zret I (v := fun Al => .tuple #[vI 3, .slice none 0 0, vI 0]) fun Al W I => ?_
         first | (rw [d2 (r2.1 f20)]; exact ⟨p, c, rfl, I.fa.1, I.below⟩) | (rw [d3 k1 k2 (.inl ⟨(rh n2).1 s37, s42⟩)]; exact b0i (k := 3) rfl I.below) | (rw [d4 k1 k2 (fun h => h.elim (fun h => absurd h.2 s42) (fun h => by have := (rh n2).1 s37; rw [this] at h; cases h.1))]; exact b0i (k := 4) rfl I.below)
       obtain ⟨k1, k2⟩ := hsp.1 rfl
       refine zd [] I fun Al W I => zk [0] I fun I => zkb 1 I (f.hid) (true) (s37) fun I => zk [2, 3, 4, 5] I fun I => zkb 6 I ((((dig B32 x).length : Nat) : Int) == 0) (false) (bFn (by omega)) fun I => zk [7, 8, 9] I fun I => zkb 10 I (f.hid) (true) (s37) fun I => zk [11, 12, 13, 14, 15, 16, 17, 18, 19] I fun I => zret I (v := fun Al => .tuple #[vI 4, .slice none 0 0, vI 0]) fun Al W I => ?_
       first | (rw [d2 (r2.1 f20)]; exact ⟨p, c, rfl, I.fa.1, I.below⟩) | (rw [d3 k1 k2 (.inl ⟨(rh n2).1 s37, s42⟩)]; exact b0i (k := 3) rfl I.below) | (rw [d4 k1 k2 (fun h => h.elim (fun h => absurd h.2 s42) (fun h => by have := (rh n2).1 s37; rw [this] at h; cases h.1))]; exact b0i (k := 4) rfl I.below)
     by_cases s53 : x = 2 ^ 63
     · obtain ⟨k1, k2⟩ := hsp.1 rfl
       refine zd [] I fun Al W I => zk [0] I fun I => zkb 1 I (f.hid) (false) ((by simpa using s37)) fun I => zk [2, 3, 4, 5, 6, 7, 8, 9] I fun I => zkb 10 I (f.hid) (false) ((by simpa using s37)) fun I => zk [11, 12, 13, 14] I fun I => zo 15 I fun I => zqo I (fun Al W I => have hzW := I.bel.size; h0l 63 (2 ^ 63) 63 W (by omega) rfl rfl) fun Al W p51 c51 I => zo 16 I fun I => zq I (fun Al W I => have hzW := I.bel.size; e0a p p51 _ _ c c51 x (2 ^ 63) W I.fa.2.1.rd I.fa.1.rd rfl rfl (by omega) (by omega)) fun Al W I => zkb 17 I ((cmpN x (2 ^ 63)) == 0) (true) (beq_iff_eq.2 (hcm.2 s53)) fun I => zk [18, 19] I fun I => zret I (v := fun Al => .tuple #[vI 3, .slice none 0 0, vI 0]) fun Al W I => ?_
       first | (rw [d2 (r2.1 f20)]; exact ⟨p, c, rfl, I.fa.2.1, I.below⟩) | (rw [d3 k1 k2 (.inr ⟨(rh2 n2).1 s37, s53⟩)]; exact b0i (k := 3) rfl I.below) | (rw [d4 k1 k2 (fun h => h.elim (fun h => by have := (rh2 n2).1 s37; rw [this] at h; cases h.1) (fun h => absurd h.2 s53))]; exact b0i (k := 4) rfl I.below)
     obtain ⟨k1, k2⟩ := hsp.1 rfl
     refine zd [] I fun Al W I => zk [0] I fun I => zkb 1 I (f.hid) (false) ((by simpa using s37)) fun I => zk [2, 3, 4, 5, 6, 7, 8, 9] I fun I => zkb 10 I (f.hid) (false) ((by simpa using s37)) fun I => zk [11, 12, 13, 14] I fun I => zo 15 I fun I => zqo I (fun Al W I => have hzW := I.bel.size; h0l 63 (2 ^ 63) 63 W (by omega) rfl rfl) fun Al W p51 c51 I => zo 16 I fun I => zq I (fun Al W I => have hzW := I.bel.size; e0a p p51 _ _ c c51 x (2 ^ 63) W I.fa.2.1.rd I.fa.1.rd rfl rfl (by omega) (by omega)) fun Al W I => zkb 17 I ((cmpN x (2 ^ 63)) == 0) (false) (bFn (fun h => s53 (hcm.1 h))) fun I => zk [18, 19] I fun I => zret I (v := fun Al => .tuple #[vI 4, .slice none 0 0, vI 0]) fun Al W I => ?_
     first | (rw [d2 (r2.1 f20)]; exact ⟨p, c, rfl, I.fa.2.1, I.below⟩) | (rw [d3 k1 k2 (.inr ⟨(rh2 n2).1 s37, s53⟩)]; exact b0i (k := 3) rfl I.below) | (rw [d4 k1 k2 (fun h => h.elim (fun h => by have := (rh2 n2).1 s37; rw [this] at h; cases h.1) (fun h => absurd h.2 s53))]; exact b0i (k := 4) rfl I.below)
   rcases bTF ((e : Int) == 0) with f59 | f59
   · refine zb I 59 ((e : Int) == 0) (true) (f59) fun Al W I => ?_
     rcases bTF (f.res) with f62 | f62
     · refine zb I 62 (f.res) (true) (f62) fun Al W I => ?_
       rcases bTF (g) with f65 | f65
       · refine zb I 65 (g) (true) (f65) fun Al W I => zret I (v := fun Al => .tuple #[vI 5, .slice none 0 0, vI 0]) fun Al W I => ?_
         first | (rw [d2 (r2.1 f20)]; exact ⟨p, c, rfl, I.fa.1, I.below⟩) | (rw [d5 (r3.1 f62) (e59.1 f59), f65]; first | exact b0i (k := 5) rfl I.below | exact b0i (k := 1) rfl I.below) | (rw [d6 (by have : f.fam ≠ 3 := fun h => (by have := r3.2 h; rw [f62] at this; cases this); omega) (fun h => Bool.false_ne_true (hsp.2 ⟨by have : f.fam ≠ 3 := fun h => (by have := r3.2 h; rw [f62] at this; cases this); omega, h⟩)) (e59.1 f59)]; exact ⟨p, c, rfl, I.fa.1, I.below⟩)
       refine zb I 65 (g) (false) (f65) fun Al W I => zret I (v := fun Al => .tuple #[vI 1, .slice none 0 0, vI 0]) fun Al W I => ?_
       first | (rw [d2 (r2.1 f20)]; exact ⟨p, c, rfl, I.fa.1, I.below⟩) | (rw [d5 (r3.1 f62) (e59.1 f59), f65]; first | exact b0i (k := 5) rfl I.below | exact b0i (k := 1) rfl I.below) | (rw [d6 (by have : f.fam ≠ 3 := fun h => (by have := r3.2 h; rw [f62] at this; cases this); omega) (fun h => Bool.false_ne_true (hsp.2 ⟨by have : f.fam ≠ 3 := fun h => (by have := r3.2 h; rw [f62] at this; cases this); omega, h⟩)) (e59.1 f59)]; exact ⟨p, c, rfl, I.fa.1, I.below⟩)
     refine zb I 62 (f.res) (false) (f62) fun Al W I => zb I 69 ((e : Int) == 0) (true) (f59) fun Al W I => zd [] I fun Al W I => zk [0, 1, 2, 3, 4, 5] I fun I => zret I (v := fun Al => .tuple #[vI 2, .slice p (dig B32 x).length c, vI f.g.lo]) fun Al W I => ?_
     first | (rw [d2 (r2.1 f20)]; exact ⟨p, c, rfl, I.fa.1, I.below⟩) | (rw [d6 (by have : f.fam ≠ 3 := fun h => (by have := r3.2 h; rw [f62] at this; cases this); omega) (fun h => Bool.false_ne_true (hsp.2 ⟨by have : f.fam ≠ 3 := fun h => (by have := r3.2 h; rw [f62] at this; cases this); omega, h⟩)) (e59.1 f59)]; exact ⟨p, c, rfl, I.fa.1, I.below⟩)
   refine zb I 59 ((e : Int) == 0) (false) (f59) fun Al W I => zb I 69 ((e : Int) == 0) (false) (f59) fun Al W I => ?_
   rcases bTF (f.hid) with f75 | f75
   · refine zb I 75 (f.hid) (true) (f75) fun Al W I => zd [] I fun Al W I => zk [0, 1, 2, 3, 6, 7, 8] I fun I => zki 9 I .i64 (f.g.lo + (e : Int)) (f.g.lo + (e : Int)) (iwo) fun I => zki 10 I .i64 ((f.g.lo + (e : Int)) - 1) ((f.g.lo + (e : Int)) - 1) (iwo) fun I => zo 4 I fun I => zqo I (fun Al W I => have hzW := I.bel.size; h0l f.F (2 ^ f.F) _ W (by omega) rfl rfl) fun Al W p80 c80 I => zo 5 I fun I => zqo I (fun Al W I => have hzW := I.bel.size; sadd p p80 _ _ c c80 x (2 ^ f.F) (x + 2 ^ f.F) W I.fa.2.1.rd I.fa.1.rd rfl rfl (by omega) (by omega) rfl) fun Al W p81 c81 I => zk [11, 12, 13] I fun I => zret I (v := fun Al => .tuple #[vI 2, .slice p81 (dig B32 (x + 2 ^ f.F)).length c81, vI ((f.g.lo + (e : Int)) - 1)]) fun Al W I => ?_
     (rw [d7 n2 (fun h => Bool.false_ne_true (hsp.2 h)) (fun h => by have := e59.2 h; rw [f59] at this; cases this), if_pos ((rh n2).1 f75)]; exact ⟨p81, c81, rfl, I.fa.1.mono (by omega), I.below⟩)
   refine zb I 75 (f.hid) (false) (f75) fun Al W I => zq I (fun Al W I => have hzW := I.bel.size; stay (h0j p _ c x W I.fa.1.rd rfl (by omega))) fun Al W I => ?_
   rcases bTF (decide (((blen x : Nat) : Int) < 64)) with f91 | f91
   · refine zb I 91 (decide (((blen x : Nat) : Int) < 64)) (true) (f91) fun Al W I => zret I (v := fun Al => .tuple #[vI 4, .slice none 0 0, vI 0]) fun Al W I => ?_
     first | (rw [d2 (r2.1 f20)]; exact ⟨p, c, rfl, I.fa.1, I.below⟩) | (rw [d7 n2 (fun h => Bool.false_ne_true (hsp.2 h)) (fun h => by have := e59.2 h; rw [f59] at this; cases this), if_neg (by rw [← rh n2, f75]; exact Bool.false_ne_true), if_pos (hbl.1 (by have := oTr f91; omega))]; exact b0i (k := 4) rfl I.below)
   refine zb I 91 (decide (((blen x : Nat) : Int) < 64)) (false) (f91) fun Al W I => a0j I J fun Al W U I => hJ _ _ _ _ _ ⟨U, rfl, rfl, rfl, (by rw [d7 n2 (fun h => Bool.false_ne_true (hsp.2 h)) (fun h => by have := e59.2 h; rw [f59] at this; cases this), if_neg (by rw [← rh n2, f75]; exact Bool.false_ne_true), if_neg (fun h => oFa f91 (by have := hbl.2 h; omega))])⟩ (I.pick [0])
 rintro _ _ _ ⟨U2, rfl, rfl, rfl, hd9⟩ Al W I
 refine zd [] I fun Al W I => zk [0, 1, 2, 3, 4] I fun I => zki 5 I .i64 (f.g.lo + (e : Int)) (f.g.lo + (e : Int)) (iwo) fun I => zki 6 I .i64 ((f.g.lo + (e : Int)) - 1) ((f.g.lo + (e : Int)) - 1) (iwo) fun I => zk [7, 8, 9] I fun I => zret I (v := fun Al => .tuple #[vI 2, .slice p (dig B32 x).length c, vI ((f.g.lo + (e : Int)) - 1)]) fun Al W I => ?_
 (rw [hd9]; exact ⟨p, c, rfl, I.fa.1, I.below⟩)
theorem d1h (p : OA) (c x : Nat) (pw : Int) (gg : Gd) (base : Nat) (w : World) (hp : Own w base .u32 139 p c (dig B32 x)) (hl : (dig B32 x).length ≤ 1000) (hpw : -100000 ≤ pw ∧ pw ≤ 100000) (hr : gg.rad = 2 ∨ gg.rad = 16) (hT : TabW w) :
 Calls Tryz.prog 134 #[.slice p (dig B32 x).length c, .int .i64 pw, .int .i64 gg.rad] w
  fun en w' => ∃ q d, en = .returned (.tuple #[.slice q (dig B32 (x / 2 ^ (tz x / wid gg * wid gg))).length d, .int .i64 (pw + (tz x / wid gg : Nat))]) ∧ Own w' w.heap.size .u32 139 q d (dig B32 (x / 2 ^ (tz x / wid gg * wid gg))) ∧ Below w.heap.size w w' := by
 have hz := q1v x hl
 rcases hr with hr | hr
 · have hw : wid gg = 1 := by unfold wid; rw [hr]; rfl
   rw [hw]
   generalize htz : tz x = z at *
   have HTZ := lHd htz
   clear htz
   have I := Inv.start w [ownF base .u32 139 p c (dig B32 x), tabF] ⟨hp, hT, True.intro⟩
   refine a0c [.v (.slice p (dig B32 x).length c), .v (.int .i64 pw), .v (.int .i64 gg.rad)] I Tryz.func134 ?_
   refine zb I 11 (gg.rad == 16) (false) (by rw [hr]; rfl) fun Al W I => zq I (fun Al W I => have hzW := I.bel.size; stay (j0j p _ c x W I.fa.1.rd rfl (by omega) I.fa.2.1)) fun Al W I => zbin I 15 _ (fun _ _ _ _ _ => u0p .i64 ((tz x : Nat) : Int) (1) (((z / 1 : Nat) : Int)) ((by decide)) ((by rw [HTZ.out]; exact (IntWalk.i64_in _ (by simp; omega)).trans (by simp)))) fun Al W I => zi I 19 .i64 (((z / 1 : Nat) : Int) * 1) (((z / 1 * 1 : Nat) : Int)) (((iwo).trans (by omega))) fun Al W I => zqo I (fun Al W I => have hzW := I.bel.size; sshr p _ c x (z / 1 * 1) _ _ W I.fa.1.rd rfl (by have := I.fa.1.le_cap; omega) (by omega) (by omega) rfl rfl) fun Al W p20 c20 I => zi I 23 .i64 (pw + ((z / 1 : Nat) : Int)) (pw + ((z / 1 : Nat) : Int)) (iwo) fun Al W I => zret I fun Al W I => ⟨p20, c20, rfl, I.fa.1.mono (by omega), I.below⟩
 · have hw : wid gg = 4 := by unfold wid; rw [hr]; rfl
   rw [hw]
   generalize htz : tz x = z at *
   have HTZ := lHd htz
   clear htz
   have I := Inv.start w [ownF base .u32 139 p c (dig B32 x), tabF] ⟨hp, hT, True.intro⟩
   refine a0c [.v (.slice p (dig B32 x).length c), .v (.int .i64 pw), .v (.int .i64 gg.rad)] I Tryz.func134 ?_
   refine zb I 11 (gg.rad == 16) (true) (by rw [hr]; rfl) fun Al W I => zq I (fun Al W I => have hzW := I.bel.size; stay (j0j p _ c x W I.fa.1.rd rfl (by omega) I.fa.2.1)) fun Al W I => zbin I 15 _ (fun _ _ _ _ _ => u0p .i64 ((tz x : Nat) : Int) (4) (((z / 4 : Nat) : Int)) ((by decide)) ((by rw [HTZ.out, show (z : Int).tdiv 4 = ((z / 4 : Nat) : Int) by rw [Int.tdiv_eq_ediv_of_nonneg (by omega)]; rfl]; exact iwo))) fun Al W I => zi I 19 .i64 (((z / 4 : Nat) : Int) * 4) (((z / 4 * 4 : Nat) : Int)) (((iwo).trans (by omega))) fun Al W I => zqo I (fun Al W I => have hzW := I.bel.size; sshr p _ c x (z / 4 * 4) _ _ W I.fa.1.rd rfl (by have := I.fa.1.le_cap; omega) (by omega) (by omega) rfl rfl) fun Al W p20 c20 I => zi I 23 .i64 (pw + ((z / 4 : Nat) : Int)) (pw + ((z / 4 : Nat) : Int)) (iwo) fun Al W I => zret I fun Al W I => ⟨p20, c20, rfl, I.fa.1.mono (by omega), I.below⟩
def v0f (w : World) (v : Vl) (g : Bool) (en : Ending) (w' : World) : Prop :=
 ∃ p c, en = .returned (.tuple #[.agg #[.int .i64 (v.cls : Int), .bool v.neg, .slice p (dig B32 v.d).length c, .int .i64 v.pow], .bool g]) ∧ Own w' w.heap.size .u32 139 p c (dig B32 v.d) ∧ Below w.heap.size w w'
theorem o0x {w w' : World} {v : Vl} {k : Nat} {n g : Bool} {p : OA} {c d base : Nat} {x : Int} {en : Ending} (hv : v = ⟨k, n, d, x⟩) (h : en = .returned (.tuple #[.agg #[.int .i64 (k : Int), .bool n, .slice p (dig B32 d).length c, .int .i64 x], .bool g]))
 (ho : Own w' base .u32 139 p c (dig B32 d)) (hB : w.heap.size ≤ base) (hb : Below w.heap.size w w') : v0f w v g en w' := by
 subst hv
 exact ⟨p, c, h, ho.mono hB, hb⟩
theorem e0o {w w' : World} {v : Vl} {k : Nat} {n g : Bool} {en : Ending} (hv : v = ⟨k, n, 0, 0⟩) (h : en = .returned (.tuple #[.agg #[.int .i64 (k : Int), .bool n, .slice none 0 0, .int .i64 0], .bool g])) (hb : Below w.heap.size w w') : v0f w v g en w' :=
 o0x (p := none) (c := 0) (base := w.heap.size) hv (by rw [h, a0d]; rfl) (by rw [a0d]; exact Own.nil _ _ _ _) (Nat.le_refl _) hb
theorem y0t (f : Fm) (s : ByteArray) (w : World) (G : b0z f) (hs : s.size = f.size) (hT : TabW w) :
 Calls Tryz.prog 62 #[(fV f), .string s] w (v0f w (f.valN (a0s f s)) (f.neg (a0s f s))) := by
 have z2 := G.f2
 have he : f.exp (a0s f s) < 2 ^ f.E := Nat.mod_lt _ (Nat.pow_pos (by omega))
 have hx : f.frac (a0s f s) < 2 ^ f.F := Nat.mod_lt _ (Nat.pow_pos (by omega))
 have HS := fun W => lHd (d1d f s W G hs)
 unfold Fm.valN Fm.decN
 generalize f.neg (a0s f s) = g at *
 generalize f.exp (a0s f s) = e at *
 generalize f.frac (a0s f s) = x at *
 have HV := fun p c base W h1 h2 => lHd (d1g f g e x p c base W G h1 h2 he hx)
 have k1 := b1z f g e x
 have k2 := g1b (f := f) g (e := e) hx
 have k3 := o1s G g (frac := x) he
 have k4 := a0q k2 (k := 3) (by omega)
 have hrd : f.g.rad = 2 ∨ f.g.rad = 16 := by have := G.rad; split at this <;> omega
 clear k2
 generalize f.dec g e x = D at *
 obtain ⟨k, m, pw⟩ := D
 simp only at k1 k3 k4
 have hm0 := a0g a0a m
 rcases k1 with rfl | rfl | rfl | rfl | rfl
 · have hv : f.vl g ⟨1, m, pw⟩ = ⟨1, g, 0, 0⟩ := by unfold Fm.vl Dc.c; simp
   have I := Inv.start w [tabF] ⟨hT, True.intro⟩
   refine a0c [.v ((fV f)), .v (.string s)] I Tryz.func62 ?_
   refine zqo I (fun Al W I => (HS W).out) fun Al W p13 c13 I => zqo I (fun Al W I => have hzW := I.bel.size; (HV p13 c13 _ W I.fa.1 (by omega)).out) fun Al W p17 c17 I => zd [1] I fun Al W I => zk [0, 1, 2] I fun I => zo 3 I fun I => zn I fun Al W I => zk [4] I fun I => zret I fun Al W I => e0o hv rfl I.below
 · by_cases h0 : m = 0
   · have hv : f.vl g ⟨2, m, pw⟩ = ⟨1, g, 0, 0⟩ := by unfold Fm.vl Dc.c; simp [h0]
     have I := Inv.start w [tabF] ⟨hT, True.intro⟩
     refine a0c [.v ((fV f)), .v (.string s)] I Tryz.func62 ?_
     refine zqo I (fun Al W I => (HS W).out) fun Al W p13 c13 I => zqo I (fun Al W I => have hzW := I.bel.size; (HV p13 c13 _ W I.fa.1 (by omega)).out) fun Al W p17 c17 I => zb I 28 ((((dig B32 m).length : Nat) : Int) == 0) (true) (beq_iff_eq.2 (by omega)) fun Al W I => zd [1] I fun Al W I => zk [0, 1, 2] I fun I => zo 3 I fun I => zn I fun Al W I => zk [4] I fun I => zret I fun Al W I => e0o hv rfl I.below
   · have hv : f.vl g ⟨2, m, pw⟩ = ⟨2, g, m / 2 ^ (tz m / wid f.g * wid f.g), pw + (tz m / wid f.g : Nat)⟩ := by unfold Fm.vl Dc.c; simp [h0]
     have HB := fun p c base W h1 hT => lHd (d1h p c m pw f.g base W h1 (by omega) (by omega) hrd hT)
     generalize m / 2 ^ (tz m / wid f.g * wid f.g) = mm at *
     generalize pw + ((tz m / wid f.g : Nat) : Int) = pp at *
     have I := Inv.start w [tabF] ⟨hT, True.intro⟩
     refine a0c [.v ((fV f)), .v (.string s)] I Tryz.func62 ?_
     refine zqo I (fun Al W I => (HS W).out) fun Al W p13 c13 I => zqo I (fun Al W I => have hzW := I.bel.size; (HV p13 c13 _ W I.fa.1 (by omega)).out) fun Al W p17 c17 I => zb I 28 ((((dig B32 m).length : Nat) : Int) == 0) (false) (bFn (by omega)) fun Al W I => zqo I (fun Al W I => (HB p17 c17 _ W I.fa.1 I.fa.2.2.1).out) fun Al W q44 d44 I => zd [1] I fun Al W I => zk [0, 1, 2] I fun I => zo 3 I fun I => zn I fun Al W I => zk [4] I fun I => zret I fun Al W I => o0x hv rfl I.fa.1 (by omega) I.below
 · have hv : f.vl g ⟨3, m, pw⟩ = ⟨3, g, 0, 0⟩ := by unfold Fm.vl Dc.c; simp
   have I := Inv.start w [tabF] ⟨hT, True.intro⟩
   refine a0c [.v ((fV f)), .v (.string s)] I Tryz.func62 ?_
   refine zqo I (fun Al W I => (HS W).out) fun Al W p13 c13 I => zqo I (fun Al W I => have hzW := I.bel.size; (HV p13 c13 _ W I.fa.1 (by omega)).out) fun Al W p17 c17 I => zd [1] I fun Al W I => zk [0, 1, 2] I fun I => zo 3 I fun I => zn I fun Al W I => zk [4] I fun I => zret I fun Al W I => e0o hv rfl I.below
 · have hv : f.vl g ⟨4, m, pw⟩ = ⟨4, false, 0, 0⟩ := by unfold Fm.vl Dc.c; simp
   have I := Inv.start w [tabF] ⟨hT, True.intro⟩
   refine a0c [.v ((fV f)), .v (.string s)] I Tryz.func62 ?_
   refine zqo I (fun Al W I => (HS W).out) fun Al W p13 c13 I => zqo I (fun Al W I => have hzW := I.bel.size; (HV p13 c13 _ W I.fa.1 (by omega)).out) fun Al W p17 c17 I => zd [1] I fun Al W I => zk [0, 1, 2] I fun I => zo 3 I fun I => zn I fun Al W I => zk [4] I fun I => zret I fun Al W I => e0o hv rfl I.below
 · have hv : f.vl g ⟨5, m, pw⟩ = ⟨5, false, 0, 0⟩ := by unfold Fm.vl Dc.c; simp
   have I := Inv.start w [tabF] ⟨hT, True.intro⟩
   refine a0c [.v ((fV f)), .v (.string s)] I Tryz.func62 ?_
   refine zqo I (fun Al W I => (HS W).out) fun Al W p13 c13 I => zqo I (fun Al W I => have hzW := I.bel.size; (HV p13 c13 _ W I.fa.1 (by omega)).out) fun Al W p17 c17 I => zd [1] I fun Al W I => zk [0, 1, 2] I fun I => zo 3 I fun I => zn I fun Al W I => zk [4] I fun I => zret I fun Al W I => e0o hv rfl I.below
def a0x (n : Int) (s : ByteArray) : Int := if IsFm n then (if s.size = (fmt n).size then 0 else 1) else 6
theorem m1g (n : Int) (s : ByteArray) (w : World) (hn : IsFm n) (hs : s.size = (fmt n).size) :
 Calls Tryz.prog 61 #[.int .i64 n, .string s] w fun en w' => en = .returned (.tuple #[.agg #[.int .i64 (((fmt n).size : Nat) : Int), .int .i64 (((fmt n).E : Nat) : Int), .int .i64 (((fmt n).F : Nat) : Int), .int .i64 (fmt n).g.rad, .int .i64 (fmt n).g.digs, .int .i64 (fmt n).g.lo, .int .i64 (fmt n).g.hi, .bool (fmt n).g.grad, .bool (fmt n).hid, .bool (fmt n).inf, .bool (fmt n).res, .func (.func (ordF (fmt n))) #[] #[]], .int .i64 0]) ∧ Below w.heap.size w w' := by
 have HF := fun W => lHd (g0c n hn W)
 generalize fmt n = f at *
 have I := Inv.start w [] True.intro
 refine a0c [.v (.int .i64 n), .v (.string s)] I Tryz.func61 ?_
 refine zq I (fun Al W I => (HF W).out) fun Al W I => zb I 20 ((s.size : Int) != (f.size : Int)) (false) (by simp [hs]) fun Al W I => zrb I
theorem h1g (n : Int) (s : ByteArray) (w : World) (hn : IsFm n) (hs : s.size ≠ (fmt n).size) :
 Calls Tryz.prog 61 #[.int .i64 n, .string s] w fun en w' => en = .returned (.tuple #[.agg #[.int .i64 (((fmt n).size : Nat) : Int), .int .i64 (((fmt n).E : Nat) : Int), .int .i64 (((fmt n).F : Nat) : Int), .int .i64 (fmt n).g.rad, .int .i64 (fmt n).g.digs, .int .i64 (fmt n).g.lo, .int .i64 (fmt n).g.hi, .bool (fmt n).g.grad, .bool (fmt n).hid, .bool (fmt n).inf, .bool (fmt n).res, .func (.func (ordF (fmt n))) #[] #[]], .int .i64 1]) ∧ Below w.heap.size w w' := by
 have HF := fun W => lHd (g0c n hn W)
 generalize fmt n = f at *
 have I := Inv.start w [] True.intro
 refine a0c [.v (.int .i64 n), .v (.string s)] I Tryz.func61 ?_
 refine zq I (fun Al W I => (HF W).out) fun Al W I => zb I 20 ((s.size : Int) != (f.size : Int)) (true) (bne_iff_ne.2 (fun h => hs (by omega))) fun Al W I => zrb I
theorem h1h (n : Int) (s : ByteArray) (w : World) (hn : ¬ IsFm n) :
 Calls Tryz.prog 61 #[.int .i64 n, .string s] w fun en w' => en = .returned (.tuple #[.agg #[.int .i64 0, .int .i64 0, .int .i64 0, .int .i64 0, .int .i64 0, .int .i64 0, .int .i64 0, .bool false, .bool false, .bool false, .bool false, .nilFunc], .int .i64 6]) ∧ Below w.heap.size w w' := by
 have HF := fun W => lHd (h0k n hn W)
 have I := Inv.start w [] True.intro
 refine a0c [.v (.int .i64 n), .v (.string s)] I Tryz.func61 ?_
 refine zq I (fun Al W I => (HF W).out) fun Al W I => zrb I
def d1i (w : World) (v : Vl) (er : Int) (en : Ending) (w' : World) : Prop :=
 ∃ p c, en = .returned (.tuple #[.agg #[.int .i64 (v.cls : Int), .bool v.neg, .slice p (dig B32 v.d).length c, .int .i64 v.pow], .int .i64 er]) ∧ Own w' w.heap.size .u32 139 p c (dig B32 v.d) ∧ Below w.heap.size w w'
def w0q : Vl := ⟨0, false, 0, 0⟩
def decP (n : Int) (s : ByteArray) : Vl := if a0x n s = 0 then (fmt n).valN (a0s (fmt n) s) else w0q
theorem d0n {n : Int} {s : ByteArray} : a0x n s = 0 ↔ IsFm n ∧ s.size = (fmt n).size := by
 unfold a0x
 by_cases h1 : IsFm n
 · rw [if_pos h1]
   by_cases h2 : s.size = (fmt n).size
   · rw [if_pos h2]; simp [h1, h2]
   · rw [if_neg h2]; simp [h2]
 · rw [if_neg h1]; simp [h1]
theorem n0g {w w' : World} {er : Int} {en : Ending} (h : en = .returned (.tuple #[.agg #[.int .i64 0, .bool false, .slice none 0 0, .int .i64 0], .int .i64 er])) (hb : Below w.heap.size w w') : d1i w w0q er en w' := by
 refine ⟨none, 0, ?_, ?_, hb⟩
 · rw [h]; show _ = Ending.returned (.tuple #[.agg #[_, _, .slice none (dig B32 0).length 0, _], _]); rw [a0d]; rfl
 · show Own _ _ _ _ _ _ (dig B32 0); rw [a0d]; exact Own.nil _ _ _ _
theorem k0z (n : Int) (s : ByteArray) (w : World) (hT : TabW w) :
 Calls Tryz.prog 26 #[.int .i64 n, .string s] w (d1i w (decP n s) (a0x n s)) := by
 by_cases hn : IsFm n
 · by_cases hs : s.size = (fmt n).size
   · have h0 : a0x n s = 0 := d0n.2 ⟨hn, hs⟩
     have hd : decP n s = (fmt n).valN (a0s (fmt n) s) := by unfold decP; rw [if_pos h0]
     rw [hd, h0]
     have HF := fun W => lHd (m1g n s W hn hs)
     have HD := fun W h => lHd (y0t (fmt n) s W (d0a hn) hs h)
     generalize (fmt n).valN (a0s (fmt n) s) = v at *
     generalize (fmt n).neg (a0s (fmt n) s) = g at *
     generalize fmt n = f at *
     have I := Inv.start w [tabF] ⟨hT, True.intro⟩
     refine a0c [.v (.int .i64 n), .v (.string s)] I Tryz.func26 ?_
     refine zq I (fun Al W I => (HF W).out) fun Al W I => zqo I (fun Al W I => (HD W I.fa.1).out) fun Al W p23 c23 I => zret I fun Al W I => ⟨p23, c23, rfl, I.fa.1.mono (by omega), I.below⟩
   · have h0 : a0x n s = 1 := by unfold a0x; rw [if_pos hn, if_neg hs]
     have hd : decP n s = w0q := by unfold decP; rw [if_neg (by omega)]
     rw [hd, h0]
     have HF := fun W => lHd (h1g n s W hn hs)
     generalize fmt n = f at *
     have I := Inv.start w [] True.intro
     refine a0c [.v (.int .i64 n), .v (.string s)] I Tryz.func26 ?_
     refine zq I (fun Al W I => (HF W).out) fun Al W I => zret I fun Al W I => n0g rfl I.below
 · have h0 : a0x n s = 6 := by unfold a0x; rw [if_neg hn]
   have hd : decP n s = w0q := by unfold decP; rw [if_neg (by omega)]
   rw [hd, h0]
   have HF := fun W => lHd (h1h n s W hn)
   have I := Inv.start w [] True.intro
   refine a0c [.v (.int .i64 n), .v (.string s)] I Tryz.func26 ?_
   refine zq I (fun Al W I => (HF W).out) fun Al W I => zret I fun Al W I => n0g rfl I.below
def c0k (n : Int) : Int := if IsFm n then 0 else 6
theorem q0v {n : Int} (h : ¬ IsFm n) : fmt n = ⟨0, 0, 0, ⟨0, 0, 0, 0, false⟩, 0, false⟩ := by
 unfold IsFm at h
 unfold fmt
 rw [if_neg (by omega), if_neg (by omega), if_neg (by omega), if_neg (by omega), if_neg (by omega), if_neg (by omega), if_neg (by omega), if_neg (by omega)]
theorem w0r (n : Int) (w : World) : Calls Tryz.prog 19 #[.int .i64 n] w fun en w' => en = .returned (.tuple #[.int .i64 (((fmt n).size : Nat) : Int), .int .i64 (c0k n)]) ∧ Below w.heap.size w w' := by
 by_cases hn : IsFm n
 · have h0 : c0k n = 0 := by unfold c0k; rw [if_pos hn]
   rw [h0]
   have HF := fun W => lHd (g0c n hn W)
   generalize fmt n = f at *
   have I := Inv.start w [] True.intro
   refine a0c [.v (.int .i64 n)] I Tryz.func19 ?_
   refine zq I (fun Al W I => (HF W).out) fun Al W I => zrb I
 · have h0 : c0k n = 6 := by unfold c0k; rw [if_neg hn]
   rw [h0, q0v hn]
   have HF := fun W => lHd (h0k n hn W)
   have I := Inv.start w [] True.intro
   refine a0c [.v (.int .i64 n)] I Tryz.func19 ?_
   refine zq I (fun Al W I => (HF W).out) fun Al W I => zrb I
theorem h1i (n : Int) (w : World) : Calls Tryz.prog 36 #[.int .i64 n] w fun en w' => en = .returned (.tuple #[.agg #[.int .i64 (fmt n).g.rad, .int .i64 (fmt n).g.digs, .int .i64 (fmt n).g.lo, .int .i64 (fmt n).g.hi, .bool (fmt n).g.grad], .int .i64 (c0k n)]) ∧ Below w.heap.size w w' := by
 by_cases hn : IsFm n
 · have h0 : c0k n = 0 := by unfold c0k; rw [if_pos hn]
   rw [h0]
   have HF := fun W => lHd (g0c n hn W)
   generalize fmt n = f at *
   have I := Inv.start w [] True.intro
   refine a0c [.v (.int .i64 n)] I Tryz.func36 ?_
   refine zq I (fun Al W I => (HF W).out) fun Al W I => zrb I
 · have h0 : c0k n = 6 := by unfold c0k; rw [if_neg hn]
   rw [h0, q0v hn]
   have HF := fun W => lHd (h0k n hn W)
   have I := Inv.start w [] True.intro
   refine a0c [.v (.int .i64 n)] I Tryz.func36 ?_
   refine zq I (fun Al W I => (HF W).out) fun Al W I => zrb I
def famB (f : Fm) : Int := if f.fam = 1 then 65 else if f.fam = 2 then 66 else 67
abbrev uS (f : Fm) (n way k : Int) : List SV := [.v (.int .i64 n), .v (.int .i64 way), .v (.int .i64 f.g.rad), .v (.int .i64 f.g.digs), .v (.int .i64 f.g.lo), .v (.int .i64 f.g.hi), .v (.bool f.g.grad), .v (.int .u8 (famB f)), .v (.int .i64 k)]
theorem c0o (f : Fm) (n way a b c : Int) (u : Nat) (w : World) (U : Bt w u 186 #[.int .i64 n, .int .i64 way, .int .i64 f.g.rad, .int .i64 f.g.digs, .int .i64 f.g.lo, .int .i64 f.g.hi, .bool f.g.grad, .int .u8 (famB f), .int .i64 a]) (hc : bits .or .i64 a b = c) :
 Calls Tryz.prog 124 #[.pointer (some ⟨u, 0, none⟩), .int .i64 b] w fun e w' => e = .returned (.tuple #[]) ∧ Kp [u] w w' ∧ Bt w' u 186 #[.int .i64 n, .int .i64 way, .int .i64 f.g.rad, .int .i64 f.g.digs, .int .i64 f.g.lo, .int .i64 f.g.hi, .bool f.g.grad, .int .u8 (famB f), .int .i64 c] := by
 have I := Inv.startW w u 186 (uS f n way a) [] U True.intro True.intro
 refine a0c [.p 0 0, .v (.int .i64 b)] I Tryz.func124 ?_
 refine zbin I 9 _ (fun _ _ _ _ _ => l0h .i64 (a) (b) (c) (hc)) fun Al W I => zret I fun Al W I => ⟨rfl, I.bel, I.boxE 186 _⟩
theorem d1j (f : Fm) (n way a : Int) (u : Nat) (w : World) (U : Bt w u 186 #[.int .i64 n, .int .i64 way, .int .i64 f.g.rad, .int .i64 f.g.digs, .int .i64 f.g.lo, .int .i64 f.g.hi, .bool f.g.grad, .int .u8 (famB f), .int .i64 a]) :
 Calls Tryz.prog 130 #[.pointer (some ⟨u, 0, none⟩)] w fun e w' => e = .returned (.int .i64 ((wid f.g : Nat) : Int)) ∧ Below w.heap.size w w' := by
 by_cases h : f.g.rad = 16
 · have hw : wid f.g = 4 := by unfold wid; rw [if_pos h]
   rw [hw]
   have I := Inv.startR w [u] [⟨186, (uS f n way a), true⟩] [] ⟨U, True.intro⟩ True.intro
   refine a0c [.p 0 0] I Tryz.func130 ?_
   refine zb I 8 (f.g.rad == 16) (true) (beq_iff_eq.2 h) fun Al W I => zrb I
 · have hw : wid f.g = 1 := by unfold wid; rw [if_neg h]
   rw [hw]
   have I := Inv.startR w [u] [⟨186, (uS f n way a), true⟩] [] ⟨U, True.intro⟩ True.intro
   refine a0c [.p 0 0] I Tryz.func130 ?_
   refine zb I 8 (f.g.rad == 16) (false) (bFn h) fun Al W I => zrb I
theorem t0b (f : Fm) (n way a : Int) (g : Bool) (u : Nat) (w : World) (U : Bt w u 186 #[.int .i64 n, .int .i64 way, .int .i64 f.g.rad, .int .i64 f.g.digs, .int .i64 f.g.lo, .int .i64 f.g.hi, .bool f.g.grad, .int .u8 (famB f), .int .i64 a]) :
 Calls Tryz.prog 53 #[.pointer (some ⟨u, 0, none⟩), .bool g] w fun e w' => e = .returned (.agg #[.int .i64 1, .bool (g && decide (f.fam = 1)), .slice none 0 0, .int .i64 0]) ∧ Below w.heap.size w w' := by
 have hB : (famB f == 65) = decide (f.fam = 1) := by
  unfold famB
  by_cases h1 : f.fam = 1
  · simp [h1]
  · by_cases h2 : f.fam = 2 <;> simp [h1, h2]
 cases g
 · have I := Inv.startR w [u] [⟨186, (uS f n way a), true⟩] [] ⟨U, True.intro⟩ True.intro
   refine a0c [.p 0 0, .v (.bool false)] I Tryz.func53 ?_
   exact zrb I
 · generalize decide (f.fam = 1) = q at *
   have I := Inv.startR w [u] [⟨186, (uS f n way a), true⟩] [] ⟨U, True.intro⟩ True.intro
   refine a0c [.p 0 0, .v (.bool true)] I Tryz.func53 ?_
   refine zb I 11 ((famB f) == 65) (q) (hB) fun Al W I => zrb I
theorem h1j : Tryz.prog.underlying 229 = some (.map 5 3) := by kernel_rfl
def n0h : Array MapEntry := #[⟨.int .u8 65, .int .i64 4, 0⟩, ⟨.int .u8 66, .int .i64 1, 1⟩, ⟨.int .u8 67, .int .i64 5, 2⟩]
theorem k0c (f : Fm) (n way a : Int) (u : Nat) (w : World) (U : Bt w u 186 #[.int .i64 n, .int .i64 way, .int .i64 f.g.rad, .int .i64 f.g.digs, .int .i64 f.g.lo, .int .i64 f.g.hi, .bool f.g.grad, .int .u8 (famB f), .int .i64 a]) :
 Calls Tryz.prog 125 #[.pointer (some ⟨u, 0, none⟩)] w fun e w' => e = .returned (.agg #[.int .i64 (f.nothM.cls : Int), .bool false, .slice none 0 0, .int .i64 0]) ∧ Below w.heap.size w w' := by
 have hmm := @run_makeMap Tryz.prog
 go_enter Tryz.func125, Tryz.ntmps125
 have hs : (w.alloc (Obj.cells #[Value.int IntKind.i64 0, Value.bool false, Value.slice none 0 0, Value.int IntKind.i64 0] 61)).heap.size = w.heap.size + 1 := by show (w.heap.push _).size = _; exact Array.size_push ..
 have h1 := e0e (w := w.alloc (Obj.cells #[Value.int IntKind.i64 0, Value.bool false, Value.slice none 0 0, Value.int IntKind.i64 0] 61)) h1j Tryz.underlying5 #[] 0 65 (.int .i64 4) rfl
 have h2 := e0e (w := w.alloc (Obj.cells #[Value.int IntKind.i64 0, Value.bool false, Value.slice none 0 0, Value.int IntKind.i64 0] 61)) h1j Tryz.underlying5 #[⟨.int .u8 65, .int .i64 4, 0⟩] 1 66 (.int .i64 1) rfl
 have h3 := e0e (w := w.alloc (Obj.cells #[Value.int IntKind.i64 0, Value.bool false, Value.slice none 0 0, Value.int IntKind.i64 0] 61)) h1j Tryz.underlying5 #[⟨.int .u8 65, .int .i64 4, 0⟩, ⟨.int .u8 66, .int .i64 1, 1⟩] 2 67 (.int .i64 5) rfl
 rw [hs] at h1 h2 h3
 have U3 : ∀ es c, Bt ((w.alloc (Obj.cells #[Value.int IntKind.i64 0, Value.bool false, Value.slice none 0 0, Value.int IntKind.i64 0] 61)).alloc (Obj.map es c)) u 186 #[.int .i64 n, .int .i64 way, .int .i64 f.g.rad, .int .i64 f.g.digs, .int .i64 f.g.lo, .int .i64 f.g.hi, .bool f.g.grad, .int .u8 (famB f), .int .i64 a] := fun es c => U.past (((Below.refl _ _).alloc (Nat.le_refl _) _).alloc (by rw [hs]; omega) _)
 have hL := (U3 n0h 3).bx.c 7 (v := .int .u8 (famB f)) rfl
 have hM : ((w.alloc (Obj.cells #[Value.int IntKind.i64 0, Value.bool false, Value.slice none 0 0, Value.int IntKind.i64 0] 61)).alloc (Obj.map n0h 3)).heap[w.heap.size + 1]? = some (.map n0h 3) := by
  rw [← hs]; show ((World.alloc _ _).heap.push _)[_]? = _; exact Array.getElem?_push_size
 have hF : ∃ i, Instr.findNow (.int .u8) (.int .u8 (famB f)) n0h.toList 0 = some (some (i, .int .i64 (f.nothM.cls : Int))) := by
  unfold famB Fm.nothM
  by_cases h1 : f.fam = 1
  · rw [if_pos h1, if_pos h1]; exact ⟨0, rfl⟩
  · rw [if_neg h1, if_neg h1]
    by_cases h2 : f.fam = 2
    · rw [if_pos h2, if_pos h2]; exact ⟨1, rfl⟩
    · rw [if_neg h2, if_neg h2]; exact ⟨2, rfl⟩
 obtain ⟨i, hF⟩ := hF
 have hK := f0s h1j Tryz.underlying5 hM (famB f) hF
 simp only [n0h] at hL hK
 clear hM hF U3
 go_wp2_with fail
 have hC : Bt ((w.alloc (Obj.cells #[.int .i64 (f.nothM.cls : Int), .bool false, .slice none 0 0, .int .i64 0] 61)).alloc (Obj.map n0h 3)) w.heap.size 61 #[.int .i64 (f.nothM.cls : Int), .bool false, .slice none 0 0, .int .i64 0] := by
  show ((w.heap.push _).push _)[_]? = _
  rw [Array.getElem?_push_lt (by rw [Array.size_push]; omega)]
  simp
 simp only [n0h] at hC
 have ⟨b0, b1, b2, b3⟩ := hC.bx.e4
 refine bodyPost_ret (v := .agg #[.int .i64 (f.nothM.cls : Int), .bool false, .slice none 0 0, .int .i64 0]) (by simp [results, Tryz.results125, go_sem, b0, b1, b2, b3]) rfl ⟨rfl, ?_⟩
 refine ((Below.refl _ _).alloc (Nat.le_refl _) _).alloc ?_ _
 show _ ≤ (w.heap.push _).size
 rw [Array.size_push]; omega
def m1h (w : World) (v : Vl) (en : Ending) (w' : World) : Prop :=
 ∃ p c, en = .returned (.agg #[.int .i64 (v.cls : Int), .bool v.neg, .slice p (dig B32 v.d).length c, .int .i64 v.pow]) ∧ Own w' w.heap.size .u32 139 p c (dig B32 v.d) ∧ Below w.heap.size w w'
theorem g0e (f : Fm) (n way a : Int) (g : Bool) (u : Nat) (w : World) (U : Bt w u 186 #[.int .i64 n, .int .i64 way, .int .i64 f.g.rad, .int .i64 f.g.digs, .int .i64 f.g.lo, .int .i64 f.g.hi, .bool f.g.grad, .int .u8 (famB f), .int .i64 a]) (hd : 0 ≤ f.g.digs ∧ f.g.digs ≤ 1000) :
 Calls Tryz.prog 231 #[.pointer (some ⟨u, 0, none⟩), .bool g] w (m1h w ⟨2, g, 2 ^ (wid f.g * f.g.digs.toNat) - 1, f.g.hi⟩) := by
 have wp := b0m f.g
 have lu := U.lt
 have hmw : ((wid f.g * f.g.digs.toNat : Nat) : Int) = (wid f.g : Nat) * f.g.digs := by rw [Int.natCast_mul, Int.toNat_of_nonneg hd.1]
 have hmb : wid f.g * f.g.digs.toNat ≤ 4 * 1000 := Nat.mul_le_mul wp.2 (by omega)
 have l1 : (dig B32 1).length ≤ 1 := by rw [a0h a0a]; unfold B32; omega
 have l2 : (dig B32 (2 ^ (wid f.g * f.g.digs.toNat))).length ≤ 126 := a0q (n := wid f.g * f.g.digs.toNat + 1) (k := 126) (Nat.pow_lt_pow_right (a := 2) (by omega) (by omega)) (by omega)
 have h1 := Nat.one_le_two_pow (n := wid f.g * f.g.digs.toNat)
 have HW := fun W u hU => lHd (d1j f n way a u W hU)
 generalize wid f.g * f.g.digs.toNat = m at *
 generalize hx : 2 ^ m = x at *
 have HX := lHd hx
 clear hx
 have HM := lHd hmw
 clear hmw
 have I := Inv.startR w [u] [⟨186, (uS f n way a), true⟩] [] ⟨U, True.intro⟩ True.intro
 refine a0c [.p 0 0, .v (.bool g)] I Tryz.func231 ?_
 refine zq I (fun Al W I => (HW W _ (I.box 0 186 _)).out) fun Al W I => zd [] I fun Al W I => zk [1, 2, 3, 4, 5, 6] I fun I => zki 7 I .i64 (((wid f.g : Nat) : Int) * f.g.digs) ((m : Int)) ((by rw [HM.out]; exact IntWalk.i64_in _ (by rw [← HM.out]; omega))) fun I => zo 0 I fun I => zqo I (fun Al W I => have hzW := I.bel.size; sof 1 1 rfl (by omega) W) fun Al W p9 c9 I => zo 8 I fun I => zqo I (fun Al W I => have hzW := I.bel.size; sshl p9 _ c9 1 m x _ W I.fa.1.rd rfl (by omega) (by omega) rfl (by rw [HX.out]; omega)) fun Al W p17 c17 I => zo 9 I fun I => zqo I (fun Al W I => have hzW := I.bel.size; sof 1 1 rfl (by omega) W) fun Al W p18 c18 I => zo 10 I fun I => zqo I (fun Al W I => have hzW := I.bel.size; ssub p17 p18 _ _ c17 c18 x 1 (x - 1) W I.fa.2.1.rd I.fa.1.rd rfl rfl (by omega) (by omega) rfl) fun Al W p19 c19 I => zk [11] I fun I => zret I fun Al W I => ⟨p19, c19, rfl, I.fa.1.mono (by omega), I.below⟩
def l0k (f : Fm) (n way c : Int) (u : Nat) (w : World) (v : Vl) (en : Ending) (w' : World) : Prop :=
 ∃ p k, en = .returned (.agg #[.int .i64 (v.cls : Int), .bool v.neg, .slice p (dig B32 v.d).length k, .int .i64 v.pow]) ∧ Own w' w.heap.size .u32 139 p k (dig B32 v.d) ∧ Kp [u] w w' ∧ Bt w' u 186 #[.int .i64 n, .int .i64 way, .int .i64 f.g.rad, .int .i64 f.g.digs, .int .i64 f.g.lo, .int .i64 f.g.hi, .bool f.g.grad, .int .u8 (famB f), .int .i64 c]
theorem h1k (f : Fm) (n way a c : Int) (g : Bool) (u : Nat) (w : World) (U : Bt w u 186 #[.int .i64 n, .int .i64 way, .int .i64 f.g.rad, .int .i64 f.g.digs, .int .i64 f.g.lo, .int .i64 f.g.hi, .bool f.g.grad, .int .u8 (famB f), .int .i64 a]) (hd : 0 ≤ f.g.digs ∧ f.g.digs ≤ 1000) (hc : bits .or .i64 a 5 = c) (h2 : f.fam = 2) :
 Calls Tryz.prog 172 #[.pointer (some ⟨u, 0, none⟩), .bool g] w (l0k f n way c u w ⟨2, g, 2 ^ (wid f.g * f.g.digs.toNat) - 1, f.g.hi⟩) := by
 have hF : famB f = 66 := by unfold famB; rw [if_neg (by omega), if_pos h2]
 have HR := fun W u hU => lHd (c0o f n way a 5 c u W hU hc)
 have HG := fun W u hU => lHd (g0e f n way c g u W hU hd)
 generalize 2 ^ (wid f.g * f.g.digs.toNat) - 1 = m at *
 have I := Inv.startW w u 186 (uS f n way a) [] U True.intro True.intro
 refine a0c [.p 0 0, .v (.bool g)] I Tryz.func172 ?_
 refine zge I 0 186 (fun Al W I => (HR W _ (I.box 0 186 _)).out) fun Al V Iv _ _ kz => ?_
 rintro _ W ⟨rfl, hO, hB⟩
 refine ⟨_, rfl, kz _ (uS f n way c) _ hO hB fun I => ?_⟩
 refine zb I 13 ((famB f) == 66) (true) (beq_iff_eq.2 hF) fun Al W I => zqo I (fun Al W I => (HG W _ (I.box 0 186 _)).out) fun Al W p16 c16 I => zret I fun Al W I => ⟨p16, c16, rfl, I.fa.1.mono (by omega), I.bel, I.boxE 186 _⟩
theorem d0o {f : Fm} {n way c : Int} {u k : Nat} {g : Bool} {w w' : World} {en : Ending} (h : en = .returned (.agg #[.int .i64 (k : Int), .bool g, .slice none 0 0, .int .i64 0])) (hk : Kp [u] w w') (hb : Bt w' u 186 #[.int .i64 n, .int .i64 way, .int .i64 f.g.rad, .int .i64 f.g.digs, .int .i64 f.g.lo, .int .i64 f.g.hi, .bool f.g.grad, .int .u8 (famB f), .int .i64 c]) : l0k f n way c u w ⟨k, g, 0, 0⟩ en w' := by
 refine ⟨none, 0, ?_, ?_, hk, hb⟩
 · rw [h, a0d]; rfl
 · show Own _ _ _ _ _ _ (dig B32 0); rw [a0d]; exact Own.nil _ _ _ _
theorem h1l (f : Fm) (n way a c : Int) (g : Bool) (u : Nat) (w : World) (U : Bt w u 186 #[.int .i64 n, .int .i64 way, .int .i64 f.g.rad, .int .i64 f.g.digs, .int .i64 f.g.lo, .int .i64 f.g.hi, .bool f.g.grad, .int .u8 (famB f), .int .i64 a]) (hc : bits .or .i64 a 5 = c) (h1 : f.fam ≠ 1) (h2 : f.fam ≠ 2) :
 Calls Tryz.prog 172 #[.pointer (some ⟨u, 0, none⟩), .bool g] w (l0k f n way c u w ⟨f.nothM.cls, false, 0, 0⟩) := by
 have hF : famB f = 67 := by unfold famB; rw [if_neg h1, if_neg h2]
 have HR := fun W u hU => lHd (c0o f n way a 5 c u W hU hc)
 have HG := fun W u hU => lHd (k0c f n way c u W hU)
 generalize f.nothM.cls = k at *
 have I := Inv.startW w u 186 (uS f n way a) [] U True.intro True.intro
 refine a0c [.p 0 0, .v (.bool g)] I Tryz.func172 ?_
 refine zge I 0 186 (fun Al W I => (HR W _ (I.box 0 186 _)).out) fun Al V Iv _ _ kz => ?_
 rintro _ W ⟨rfl, hO, hB⟩
 refine ⟨_, rfl, kz _ (uS f n way c) _ hO hB fun I => ?_⟩
 refine zb I 13 ((famB f) == 66) (false) (bFn (by rw [hF]; decide)) fun Al W I => zb I 18 ((famB f) == 67) (true) (beq_iff_eq.2 hF) fun Al W I => zq I (fun Al W I => (HG W _ (I.box 0 186 _)).out) fun Al W I => zret I fun Al W I => d0o rfl I.bel (I.boxE 186 _)
theorem h0n (g : Bool) (w : World) : Calls Tryz.prog 179 #[.bool g] w fun e w' => e = .returned (.agg #[.int .i64 3, .bool g, .slice none 0 0, .int .i64 0]) ∧ Below w.heap.size w w' := by
 have I := Inv.start w [] True.intro
 refine a0c [.v (.bool g)] I Tryz.func179 ?_
 exact zrb I
theorem n0i (k : Nat) (g : Bool) (p : OA) (l c : Nat) (pw : Int) (w : World) : Calls Tryz.prog 123 #[.agg #[.int .i64 (k : Int), .bool g, .slice p l c, .int .i64 pw]] w fun e w' => e = .returned (.bool (decide (k = 4) || decide (k = 5))) ∧ Below w.heap.size w w' := by
 have e4 : ((k : Int) == 4) = decide (k = 4) := by rw [Bool.eq_iff_iff]; simp; omega
 have e5 : ((k : Int) == 5) = decide (k = 5) := by rw [Bool.eq_iff_iff]; simp; omega
 generalize decide (k = 5) = q at *
 by_cases h : k = 4
 · rw [decide_eq_true h] at e4 ⊢
   have I := Inv.start w [] True.intro
   refine a0c [.v (.agg #[.int .i64 (k : Int), .bool g, .slice p l c, .int .i64 pw])] I Tryz.func123 ?_
   refine zb I 5 ((k : Int) == 4) (true) (e4) fun Al W I => zret I (v := fun Al => .bool true) fun Al W I => ⟨by rw [Bool.true_or], I.below⟩
 · rw [decide_eq_false h] at e4 ⊢
   have I := Inv.start w [] True.intro
   refine a0c [.v (.agg #[.int .i64 (k : Int), .bool g, .slice p l c, .int .i64 pw])] I Tryz.func123 ?_
   refine zb I 5 ((k : Int) == 4) (false) (e4) fun Al W I => zb I 9 ((k : Int) == 5) (q) (e5) fun Al W I => zret I (v := fun Al => .bool q) fun Al W I => ⟨by rw [Bool.false_or], I.below⟩
theorem a0f (k : Nat) (g : Bool) (p : OA) (l c : Nat) (pw : Int) (w : World) : Calls Tryz.prog 57 #[.agg #[.int .i64 (k : Int), .bool g, .slice p l c, .int .i64 pw]] w fun e w' => e = .returned (.bool (decide (k = 3))) ∧ Below w.heap.size w w' := by
 have e : ((k : Int) == 3) = decide (k = 3) := by rw [Bool.eq_iff_iff]; simp; omega
 have I := Inv.start w [] True.intro
 refine a0c [.v (.agg #[.int .i64 (k : Int), .bool g, .slice p l c, .int .i64 pw])] I Tryz.func57 ?_
 exact zret I fun Al W I => ⟨congrArg (fun b => Ending.returned (.bool b)) e, I.below⟩
theorem b0q (k : Nat) (g : Bool) (p : OA) (l c : Nat) (pw : Int) (w : World) : Calls Tryz.prog 177 #[.agg #[.int .i64 (k : Int), .bool g, .slice p l c, .int .i64 pw]] w fun e w' => e = .returned (.bool (decide (k = 1))) ∧ Below w.heap.size w w' := by
 have e : ((k : Int) == 1) = decide (k = 1) := by rw [Bool.eq_iff_iff]; simp; omega
 have I := Inv.start w [] True.intro
 refine a0c [.v (.agg #[.int .i64 (k : Int), .bool g, .slice p l c, .int .i64 pw])] I Tryz.func177 ?_
 exact zret I fun Al W I => ⟨congrArg (fun b => Ending.returned (.bool b)) e, I.below⟩
end Go.Proofs.YtgbbhlginbmghaaGreatDoor
namespace Go.Slip
def LL (bs : List Nat) (i : Nat) : List Nat := bs.take i ++ List.replicate (bs.length - i) 0
theorem n0j (bs : List Nat) (i : Nat) : (LL bs i).length = bs.length := by unfold LL; rw [List.length_append, List.length_take, List.length_replicate]; omega
theorem m1i (bs : List Nat) : LL bs 0 = List.replicate bs.length 0 := by unfold LL; rw [List.take_zero]; rfl
theorem p1n (bs : List Nat) : LL bs bs.length = bs := by unfold LL; rw [List.take_length, Nat.sub_self]; simp
theorem d1k (bs : List Nat) (i j : Nat) : dg (LL bs i) j = if j < i then dg bs j else 0 := by
 unfold LL
 by_cases h : j < (bs.take i).length
 · rw [r0n h]
   have h2 : j < i := by rw [List.length_take] at h; omega
   rw [e0z h2, if_pos h2]
 · rw [r0o (by omega), c0v]
   split
   · rw [d0c]
     rw [List.length_take] at h
     omega
   · rfl
theorem p1o (bs : List Nat) {i : Nat} (h : i < bs.length) : (LL bs i).set i (dg bs i) = LL bs (i + 1) := by
 refine o0s (by rw [List.length_set, n0j, n0j]) fun j hj => ?_
 rw [List.length_set, n0j] at hj
 by_cases e : i = j
 · subst e
   rw [b0g (by rw [n0j]; exact h), d1k, if_pos (by omega)]
 · rw [b0n e, d1k, d1k]
   by_cases k : j < i
   · rw [if_pos k, if_pos (by omega)]
   · rw [if_neg k, if_neg (by omega)]
theorem m1j (bs : List Nat) {i : Nat} (h0 : dg bs i = 0) : LL bs i = LL bs (i + 1) := by
 refine o0s (by rw [n0j, n0j]) fun j _ => ?_
 rw [d1k, d1k]
 by_cases e : j = i
 · subst e
   rw [if_neg (by omega), if_pos (by omega), h0]
 · by_cases k : j < i
   · rw [if_pos k, if_pos (by omega)]
   · rw [if_neg k, if_neg (by omega)]
theorem d1l (n : Nat) : IntKind.u8.wrap (n : Int) = ((n % 256 : Nat) : Int) := by
 simp [IntKind.wrap, IntKind.signed, IntKind.bits]
theorem d1m (n : Nat) : dg (dig B32 n) 0 = n % 4294967296 := by
 rcases Nat.eq_zero_or_pos n with h | h
 · subst h; rw [a0d]; rfl
 · rw [d0x a0a h]; rfl
end Go.Slip
namespace Go.Proofs.YtgbbhlginbmghaaGreatDoor
open Go.RowKit Go.Slip
theorem w0s (f : Fm) (g : Bool) (e x : Nat) (p : OA) (c : Nat) (w : World) (G : b0z f) (hp : Rd w .u32 p (dig B32 x)) (he : e < 2 ^ f.E) (hx : x < 2 ^ f.F) :
 Calls Tryz.prog 171 #[(fV f), .agg #[.bool g, .int .i64 (e : Int), .slice p (dig B32 x).length c]] w fun en w' => en = .returned (.string (a0e (f.str g e x))) ∧ Below w.heap.size w w' := by
 have z1 := G.sz
 have z2 := G.e2
 have z3 := G.f2
 have z4 := G.bits
 have hlt := j1w G (neg := g) he hx
 have hxl := a0q hx (k := 2) (by omega)
 have hT : g.toNat * 2 ^ f.E + e < 2 ^ 16 := by
  have h1 : 2 ^ f.E ≤ 2 ^ 15 := Nat.pow_le_pow_right (by omega) (by omega)
  cases g <;> simp <;> omega
 have hpw : 2 ^ f.E ≤ 2 ^ 15 := Nat.pow_le_pow_right (by omega) (by omega)
 have hsh := q0b (E := f.E) (by omega)
 have hor := y0b (x := e) (E := f.E) he (by omega)
 have h80 : f.pat g e x < 2 ^ 80 := Nat.lt_of_lt_of_le hlt (Nat.pow_le_pow_right (by omega) (by omega))
 unfold Fm.str
 have hpe : f.pat g e x = (g.toNat * 2 ^ f.E + e) * 2 ^ f.F + x := rfl
 have hord := fun (W : World) (base : Nat) (p : OA) (c : Nat) (xs : List Nat) h1 h2 => c1p f base p f.size c xs W G h1 h2.symm h2
 generalize hNN : f.pat g e x = NN at *
 have hbl : (d0v NN f.size).length = f.size := d0s _ _
 have hdg := fun i h => s0i f.size NN i h
 have hbs := fun i h => p1o (d0v NN f.size) (i := i) h
 have hbz := fun i h => m1j (d0v NN f.size) (i := i) h
 have hball := p1n (d0v NN f.size)
 have hb0 := m1i (d0v NN f.size)
 have hLl := n0j (d0v NN f.size)
 rw [hbl] at hball hb0
 generalize d0v NN f.size = bs at *
 generalize h2E : 2 ^ f.E = P at *
 have hNl := a0q h80 (k := 3) (by omega)
 have hTl : (dig B32 ((g.toNat * P + e) * 2 ^ f.F)).length ≤ 3 := a0q (n := 80) (by omega) (by omega)
 have hQl : ∀ N, (dig B32 (NN / 2 ^ N)).length ≤ 3 := fun N => a0q (n := 80) (Nat.lt_of_le_of_lt (Nat.div_le_self _ _) h80) (by omega)
 have HSH := lHd hsh
 have HOR := lHd hor
 have HPE := lHd hpe
 have HB0 := lHd hb0
 clear hsh hor hpe hb0 hlt h80 hNN h2E
 let aA : Box := ⟨98, [.v (.int .i64 (f.size : Int)), .v (.int .i64 (f.E : Int)), .v (.int .i64 (f.F : Int)), .v (.int .i64 f.g.rad), .v (.int .i64 f.g.digs), .v (.int .i64 f.g.lo), .v (.int .i64 f.g.hi), .v (.bool f.g.grad), .v (.bool f.hid), .v (.bool f.inf), .v (.bool f.res), .v (.func (.func (ordF f)) #[] #[])], false⟩
 let aB : Box := ⟨197, [.v (.bool g), .v (.int .i64 (e : Int)), .v (.slice p (dig B32 x).length c)], false⟩
 let aC : SV := .v ((fV f))
 let aD : SV := .v (.agg #[.bool g, .int .i64 (e : Int), .slice p (dig B32 x).length c])
 have I := Inv.start w [rdF .u32 p (dig B32 x)] ⟨hp, True.intro⟩
 refine a0c [.v ((fV f)), .v (.agg #[.bool g, .int .i64 (e : Int), .slice p (dig B32 x).length c])] I Tryz.func171 ?_
 rcases bTF (g) with f13 | f13
 · refine zb I 13 (g) (true) (f13) fun Al W I => zbin I 17 _ (fun _ _ _ _ _ => m0q .i64 (1) .i64 (f.E : Int) ((P : Int)) (by omega) ((HSH.out))) fun Al W I => zbin I 18 _ (fun _ _ _ _ _ => l0h .i64 (e : Int) ((P : Int)) (((P + e : Nat) : Int)) ((HOR.out))) fun Al W I => zd [] I fun Al W I => zk [0, 2, 3, 5, 6] I fun I => zo 1 I fun I => zg I (fun Al W I => have hzW := I.bel.size; sof ((P + e : Nat) : Int) (g.toNat * P + e) (by rw [f13, Bool.toNat_true, Nat.one_mul]) (by omega) W) fun Al V Iv _ hB _ kz => ?_
   rintro _ W ⟨p20, c20, rfl, o20, hb⟩
   refine ⟨_, rfl, kz _ _ hb fun I => ?_⟩
   have I := I.own o20
   refine zo 4 I fun I => zg I (fun Al W I => have hzW := I.bel.size; sshl p20 _ c20 (g.toNat * P + e) f.F ((g.toNat * P + e) * 2 ^ f.F) _ W I.fa.1.rd rfl (by have := a0q hT (k := 1) (by omega); omega) (by omega) rfl rfl) fun Al V Iv _ hB _ kz => ?_
   rintro _ W ⟨p23, c23, rfl, o23, hb⟩
   refine ⟨_, rfl, kz _ _ hb fun I => ?_⟩
   have I := I.own o23
   refine zo 7 I fun I => zg I (fun Al W I => have hzW := I.bel.size; sadd p23 p _ _ c23 c ((g.toNat * P + e) * 2 ^ f.F) x NN W I.fa.1.rd I.fa.2.2.1 rfl rfl (by omega) (by omega) HPE.out.symm) fun Al V Iv _ hB _ kz => ?_
   rintro _ W ⟨p26, c26, rfl, o26, hb⟩
   refine ⟨_, rfl, kz _ _ hb fun I => ?_⟩
   have I := I.own o26
   refine zk [8] I fun I => zmk I 29 i0x f.size (vB (LL bs 0)) (by omega) (by rw [HB0.out]; exact k1b _) fun Al W p29 c29 I => h0c I (fun gk fr bx gs => ∃ (U900 : Nat → Value) (i : Nat) (L : List Nat), fr = (aC :: aD :: .p 0 0 :: .p 1 0 :: .v (Go.Value.string (ByteArray.mk #[])) :: .v (vI ((P + e : Nat) : Int)) :: .v (vS (dig B32 NN) p26 c26) :: .v (.slice p29 f.size c29) :: sw U900 8 5 (.v (.bool true) :: sw U900 14 17 (.v (vI (f.size : Int)) :: .v (vI (i : Int)) :: sw U900 33 27 [])) : List SV) ∧ bx = [aA, aB] ∧ gs = [b0s w.heap.size 5 p29 c29 (vB L), ownF w.heap.size .u32 139 p26 c26 (dig B32 NN)] ∧ (L = LL bs i) ∧ (gk + i = f.size)) f.size (fun Al W U I => ⟨_, ⟨U, 0, LL bs 0, rfl, rfl, rfl, rfl, (by omega)⟩, I.pick [0, 1]⟩) ?_
   rintro J0 gk0 _ _ _ ⟨U900, i, L, rfl, rfl, rfl, hL, hgk⟩ hJ0 Al W I
   rcases bTF (decide ((i : Int) < (f.size : Int))) with f33 | f33
   · refine zb I 33 (decide ((i : Int) < (f.size : Int))) (true) (f33) fun Al W I => zi I 38 .i64 ((f.size : Int) - 1) (((f.size - 1 : Nat) : Int)) ((by rw [show ((f.size : Int) - 1) = ((f.size - 1 : Nat) : Int) by omega]; exact iwo)) fun Al W I => zi I 40 .i64 (((f.size - 1 : Nat) : Int) - (i : Int)) (((f.size - 1 - i : Nat) : Int)) ((by rw [show (((f.size - 1 : Nat) : Int) - (i : Int)) = ((f.size - 1 - i : Nat) : Int) by have := oTr f33; omega]; exact iwo)) fun Al W I => zi I 41 .i64 ((8 : Int) * ((f.size - 1 - i : Nat) : Int)) (((8 * (f.size - 1 - i) : Nat) : Int)) ((by rw [show ((8 : Int) * ((f.size - 1 - i : Nat) : Int)) = ((8 * (f.size - 1 - i) : Nat) : Int) by omega]; exact iwo)) fun Al W I => zqo I (fun Al W I => have hzW := I.bel.size; sshr p26 _ c26 NN (8 * (f.size - 1 - i)) (NN / 2 ^ (8 * (f.size - 1 - i))) _ W I.fa.2.1.rd rfl (by have := I.fa.2.1.le_cap; omega) (by omega) (by omega) rfl rfl) fun Al W p42 c42 I => ?_
     have hi := oTr f33
     have hdi := hdg i (by omega)
     have hq0 := a0g a0a (NN / 2 ^ (8 * (f.size - 1 - i)))
     have hLf : L.length = f.size := by rw [hL, hLl, hbl]
     rcases bTF (decide ((((dig B32 (NN / 2 ^ (8 * (f.size - 1 - i)))).length : Nat) : Int) > 0)) with f45 | f45
     · refine zb I 45 (decide ((((dig B32 (NN / 2 ^ (8 * (f.size - 1 - i)))).length : Nat) : Int) > 0)) (true) (f45) fun Al W I => zx I 49 (fun _ => .pointer (some (at_ p42 0))) (fun Al W I => d0k (c := c42) (m := 0) d1c I.fa.1.rd.solid (by have := oTr f45; omega)) fun Al W I => zx I 50 (fun _ => .int .u32 ((dg (dig B32 (NN / 2 ^ (8 * (f.size - 1 - i)))) 0 : Nat) : Int)) (fun Al W I => s0x I.fa.1.rd g1t (by have := oTr f45; omega)) fun Al W I => zi I 51 .u8 ((dg (dig B32 (NN / 2 ^ (8 * (f.size - 1 - i)))) 0 : Nat) : Int) (((dg bs i : Nat) : Int)) ((by rw [d1l, d1m, hdi]; congr 1; exact Nat.mod_mod_of_dvd _ (by decide))) fun Al W I => zx I 52 (fun _ => .pointer (some (at_ p29 i))) (fun Al W I => d0k (c := c29) i0x (by have h := I.fa.2.1.rd.solid; rw [o0v, hLf] at h; exact h) (by omega)) fun Al W I => ?_
       have I := I.pick [1, 0, 2]
       refine zput I [1] i0x i (.int .u8 ((dg bs i : Nat) : Int)) (by rw [o0v, hLf]; omega) (by rw [k1c, hL, hbs i (by omega)]) (us := vB (LL bs (i + 1))) (fun Al W I h9 => ⟨I.fa.1.apart I.fa.2.2.1 (by kernel_rfl) h9, True.intro⟩) fun Al W I => zi I 53 .i64 ((i : Int) + 1) (((i + 1 : Nat) : Int)) ((by rw [show ((i : Int) + 1) = ((i + 1 : Nat) : Int) by omega]; exact iwo)) fun Al W I => a0j I J0 fun Al W U I => hJ0 (gk0 - 1) _ _ _ _ _ ((by omega)) ⟨U, i + 1, LL bs (i + 1), rfl, rfl, rfl, rfl, (by omega)⟩ (I.pick [0, 1])
     refine zb I 45 (decide ((((dig B32 (NN / 2 ^ (8 * (f.size - 1 - i)))).length : Nat) : Int) > 0)) (false) (f45) fun Al W I => zi I 53 .i64 ((i : Int) + 1) (((i + 1 : Nat) : Int)) ((by rw [show ((i : Int) + 1) = ((i + 1 : Nat) : Int) by omega]; exact iwo)) fun Al W I => a0j I J0 fun Al W U I => hJ0 (gk0 - 1) _ _ _ _ _ ((by omega)) ⟨U, i + 1, L, rfl, rfl, rfl, (by rw [hL]; exact hbz i (by rw [hdi, hq0.1 (by have := oFa f45; omega)])), (by omega)⟩ (I.pick [1, 2])
   refine zb I 33 (decide ((i : Int) < (f.size : Int))) (false) (f33) fun Al W I => ?_
   have hLb : L = bs := by rw [hL, show i = f.size by have := oFa f33; omega, hball]
   have hps : p29.isSome = true := (I.fa.1.rd.solid (by rw [o0v, hLb, hbl]; omega)).1
   refine zsp (g := wrF w.heap.size .u8 p29 (ordL f.ord bs)) I [] (blk p29) (c1o f) (fun Al W I => hord W w.heap.size p29 c29 bs (by rw [← hLb]; exact (k1d I.fa.1).wr) hbl) (fun Al W I => ⟨⟨hps, rfl⟩, (I.fa.1.blk_lt hps).1, True.intro⟩) (fun _ h => ⟨hps, h.2⟩) fun Al W I => zx I 59 (fun _ => .string (a0e (ordL f.ord bs))) (fun Al W I => k1a (n := f.size) (c := c29) c1u m1d uStr I.fa.1.rd (by rw [c0d, hbl])) fun Al W I => zrb I
 refine zb I 13 (g) (false) (f13) fun Al W I => zd [] I fun Al W I => zk [0, 2, 3, 5, 6] I fun I => zo 1 I fun I => zg I (fun Al W I => have hzW := I.bel.size; sof (e : Int) (g.toNat * P + e) (by rw [f13, Bool.toNat_false, Nat.zero_mul, Nat.zero_add]) (by omega) W) fun Al V Iv _ hB _ kz => ?_
 rintro _ W ⟨p20, c20, rfl, o20, hb⟩
 refine ⟨_, rfl, kz _ _ hb fun I => ?_⟩
 have I := I.own o20
 refine zo 4 I fun I => zg I (fun Al W I => have hzW := I.bel.size; sshl p20 _ c20 (g.toNat * P + e) f.F ((g.toNat * P + e) * 2 ^ f.F) _ W I.fa.1.rd rfl (by have := a0q hT (k := 1) (by omega); omega) (by omega) rfl rfl) fun Al V Iv _ hB _ kz => ?_
 rintro _ W ⟨p23, c23, rfl, o23, hb⟩
 refine ⟨_, rfl, kz _ _ hb fun I => ?_⟩
 have I := I.own o23
 refine zo 7 I fun I => zg I (fun Al W I => have hzW := I.bel.size; sadd p23 p _ _ c23 c ((g.toNat * P + e) * 2 ^ f.F) x NN W I.fa.1.rd I.fa.2.2.1 rfl rfl (by omega) (by omega) HPE.out.symm) fun Al V Iv _ hB _ kz => ?_
 rintro _ W ⟨p26, c26, rfl, o26, hb⟩
 refine ⟨_, rfl, kz _ _ hb fun I => ?_⟩
 have I := I.own o26
 refine zk [8] I fun I => zmk I 29 i0x f.size (vB (LL bs 0)) (by omega) (by rw [HB0.out]; exact k1b _) fun Al W p29 c29 I => h0c I (fun gk fr bx gs => ∃ (U900 : Nat → Value) (i : Nat) (L : List Nat), fr = (aC :: aD :: .p 0 0 :: .p 1 0 :: .v (Go.Value.string (ByteArray.mk #[])) :: .v (vI (e : Int)) :: .v (vS (dig B32 NN) p26 c26) :: .v (.slice p29 f.size c29) :: sw U900 8 5 (.v (.bool false) :: sw U900 14 17 (.v (vI (f.size : Int)) :: .v (vI (i : Int)) :: sw U900 33 27 [])) : List SV) ∧ bx = [aA, aB] ∧ gs = [b0s w.heap.size 5 p29 c29 (vB L), ownF w.heap.size .u32 139 p26 c26 (dig B32 NN)] ∧ (L = LL bs i) ∧ (gk + i = f.size)) f.size (fun Al W U I => ⟨_, ⟨U, 0, LL bs 0, rfl, rfl, rfl, rfl, (by omega)⟩, I.pick [0, 1]⟩) ?_
 rintro J0 gk0 _ _ _ ⟨U900, i, L, rfl, rfl, rfl, hL, hgk⟩ hJ0 Al W I
 rcases bTF (decide ((i : Int) < (f.size : Int))) with f33 | f33
 · refine zb I 33 (decide ((i : Int) < (f.size : Int))) (true) (f33) fun Al W I => zi I 38 .i64 ((f.size : Int) - 1) (((f.size - 1 : Nat) : Int)) ((by rw [show ((f.size : Int) - 1) = ((f.size - 1 : Nat) : Int) by omega]; exact iwo)) fun Al W I => zi I 40 .i64 (((f.size - 1 : Nat) : Int) - (i : Int)) (((f.size - 1 - i : Nat) : Int)) ((by rw [show (((f.size - 1 : Nat) : Int) - (i : Int)) = ((f.size - 1 - i : Nat) : Int) by have := oTr f33; omega]; exact iwo)) fun Al W I => zi I 41 .i64 ((8 : Int) * ((f.size - 1 - i : Nat) : Int)) (((8 * (f.size - 1 - i) : Nat) : Int)) ((by rw [show ((8 : Int) * ((f.size - 1 - i : Nat) : Int)) = ((8 * (f.size - 1 - i) : Nat) : Int) by omega]; exact iwo)) fun Al W I => zqo I (fun Al W I => have hzW := I.bel.size; sshr p26 _ c26 NN (8 * (f.size - 1 - i)) (NN / 2 ^ (8 * (f.size - 1 - i))) _ W I.fa.2.1.rd rfl (by have := I.fa.2.1.le_cap; omega) (by omega) (by omega) rfl rfl) fun Al W p42 c42 I => ?_
   have hi := oTr f33
   have hdi := hdg i (by omega)
   have hq0 := a0g a0a (NN / 2 ^ (8 * (f.size - 1 - i)))
   have hLf : L.length = f.size := by rw [hL, hLl, hbl]
   rcases bTF (decide ((((dig B32 (NN / 2 ^ (8 * (f.size - 1 - i)))).length : Nat) : Int) > 0)) with f45 | f45
   · refine zb I 45 (decide ((((dig B32 (NN / 2 ^ (8 * (f.size - 1 - i)))).length : Nat) : Int) > 0)) (true) (f45) fun Al W I => zx I 49 (fun _ => .pointer (some (at_ p42 0))) (fun Al W I => d0k (c := c42) (m := 0) d1c I.fa.1.rd.solid (by have := oTr f45; omega)) fun Al W I => zx I 50 (fun _ => .int .u32 ((dg (dig B32 (NN / 2 ^ (8 * (f.size - 1 - i)))) 0 : Nat) : Int)) (fun Al W I => s0x I.fa.1.rd g1t (by have := oTr f45; omega)) fun Al W I => zi I 51 .u8 ((dg (dig B32 (NN / 2 ^ (8 * (f.size - 1 - i)))) 0 : Nat) : Int) (((dg bs i : Nat) : Int)) ((by rw [d1l, d1m, hdi]; congr 1; exact Nat.mod_mod_of_dvd _ (by decide))) fun Al W I => zx I 52 (fun _ => .pointer (some (at_ p29 i))) (fun Al W I => d0k (c := c29) i0x (by have h := I.fa.2.1.rd.solid; rw [o0v, hLf] at h; exact h) (by omega)) fun Al W I => ?_
     have I := I.pick [1, 0, 2]
     refine zput I [1] i0x i (.int .u8 ((dg bs i : Nat) : Int)) (by rw [o0v, hLf]; omega) (by rw [k1c, hL, hbs i (by omega)]) (us := vB (LL bs (i + 1))) (fun Al W I h9 => ⟨I.fa.1.apart I.fa.2.2.1 (by kernel_rfl) h9, True.intro⟩) fun Al W I => zi I 53 .i64 ((i : Int) + 1) (((i + 1 : Nat) : Int)) ((by rw [show ((i : Int) + 1) = ((i + 1 : Nat) : Int) by omega]; exact iwo)) fun Al W I => a0j I J0 fun Al W U I => hJ0 (gk0 - 1) _ _ _ _ _ ((by omega)) ⟨U, i + 1, LL bs (i + 1), rfl, rfl, rfl, rfl, (by omega)⟩ (I.pick [0, 1])
   refine zb I 45 (decide ((((dig B32 (NN / 2 ^ (8 * (f.size - 1 - i)))).length : Nat) : Int) > 0)) (false) (f45) fun Al W I => zi I 53 .i64 ((i : Int) + 1) (((i + 1 : Nat) : Int)) ((by rw [show ((i : Int) + 1) = ((i + 1 : Nat) : Int) by omega]; exact iwo)) fun Al W I => a0j I J0 fun Al W U I => hJ0 (gk0 - 1) _ _ _ _ _ ((by omega)) ⟨U, i + 1, L, rfl, rfl, rfl, (by rw [hL]; exact hbz i (by rw [hdi, hq0.1 (by have := oFa f45; omega)])), (by omega)⟩ (I.pick [1, 2])
 refine zb I 33 (decide ((i : Int) < (f.size : Int))) (false) (f33) fun Al W I => ?_
 have hLb : L = bs := by rw [hL, show i = f.size by have := oFa f33; omega, hball]
 have hps : p29.isSome = true := (I.fa.1.rd.solid (by rw [o0v, hLb, hbl]; omega)).1
 refine zsp (g := wrF w.heap.size .u8 p29 (ordL f.ord bs)) I [] (blk p29) (c1o f) (fun Al W I => hord W w.heap.size p29 c29 bs (by rw [← hLb]; exact (k1d I.fa.1).wr) hbl) (fun Al W I => ⟨⟨hps, rfl⟩, (I.fa.1.blk_lt hps).1, True.intro⟩) (fun _ h => ⟨hps, h.2⟩) fun Al W I => zx I 59 (fun _ => .string (a0e (ordL f.ord bs))) (fun Al W I => k1a (n := f.size) (c := c29) c1u m1d uStr I.fa.1.rd (by rw [c0d, hbl])) fun Al W I => zrb I
theorem _root_.Go.Slip.Bx.b3 {w : World} {b : Nat} {v0 v1 v2 : Value} (h : Bx w b #[v0, v1, v2]) : Box3 w b v0 v1 v2 :=
 ⟨h.e3.1, h.e3.2.1, h.e3.2.2, h.f 0, h.f 1, h.f 2, h.lt⟩
structure Pin where
 g : Bool
 p : OA
 c : Nat
 xs : List Nat
 k : Int
 x : Bool
 o : Bool
 u : Bool
structure InP (w : World) (a : Pin) : Prop where
 rd : Rd w .u32 a.p a.xs
 cap : a.xs.length ≤ a.c
 len : a.xs.length ≤ 9223372036854775807
 lt : ∀ x ∈ a.xs, x < B32
theorem InP.past {w w' : World} {a : Pin} (h : InP w a) (hb : Below w.heap.size w w') : InP w' a := ⟨h.rd.past hb, h.cap, h.len, h.lt⟩
theorem y0u (g : Bool) (p : OA) (n c : Nat) (e : Int) (w : World) :
 Calls Tryz.prog 229 #[.agg #[.bool g, .slice p n c, .int .i64 e]] w fun en w' => ∃ q d, en = .returned (.agg #[.bool g, .slice p n c, .slice q (dig B32 1).length d, .int .i64 e]) ∧ Own w' w.heap.size .u32 139 q d (dig B32 1) ∧ Below w.heap.size w w' := by
 go_enter Tryz.func229, Tryz.ntmps229
 go_wp2_with fail
 refine k1v (fun W1 hb1 hz1 A R => ?_)
 have hs1 := hb1
 have hzd : W1.drew.heap.size = W1.heap.size := rfl
 have HZD := lHd hzd
 clear hzd
 go_region_held3 (fun w' => w'.cell? ⟨w.heap.size, 0, none⟩ = some (.bool g) ∧ w'.cell? ⟨w.heap.size, 1, none⟩ = some (.slice p n c) ∧ w'.cell? ⟨w.heap.size, 2, none⟩ = some (.int .i64 e))
  (first
    | with_reducible exact A.e3
    | with_reducible exact A.drew.e3
    | with_reducible exact (A.drew.past hbx).e3
    | with_reducible exact ((A.drew.past hbx).only (o1c _ _ _ _ _ _) (by omega)).e3)
  (first
    | (go_at_call 45; ((with_reducible refine (v0b _).mono ?_)); rintro ex wx ⟨px, cx, rfl, hox, hbx⟩; (have RR := R.drew.past hbx); obtain ⟨R_0, R_1, R_2, R_3⟩ := RR.e4; (have R_f0 := RR.f 0); (have R_f1 := RR.f 1); (have R_f2 := RR.f 2); (have R_f3 := RR.f 3)))
 all_goals (go_wp2_with fail)
 refine bodyPost_ret (v := .agg #[.bool g, .slice p n c, .slice px (dig B32 1).length cx, .int .i64 e]) (by simp [results, Tryz.results229, go_sem, R_0, R_1, R_2, R_3]) rfl ?_
 have hzd := HZD.out
 have hO := o1c wx (w.heap.size + 1) (.bool g) (.slice p n c) (.slice px (dig B32 1).length cx) (.int .i64 e)
 have hz := hs1.size
 exact ⟨px, cx, rfl, (hox.only hO (fun h => by have := (hox.blk_lt h).1; omega)).mono (by omega), (hs1.drew.trans (hbx.mono hz)).trans (hO.below (by omega))⟩
theorem o0y (s : Bool) (p : OA) (c : Nat) (e : Int) (m : Nat) (g : Gd) (w : World) (hp : Rd w .u32 p (dig B32 m)) (hl : (dig B32 m).length ≤ 100000) (he : -1000000 ≤ e ∧ e ≤ 1000000) (G : k0u g) :
 Calls Tryz.prog 167 #[.agg #[.bool s, .slice p (dig B32 m).length c, .int .i64 e], .agg #[.int .i64 g.rad, .int .i64 g.digs, .int .i64 g.lo, .int .i64 g.hi, .bool g.grad]] w fun en w' => en = .returned (.bool (j0s ⟨s, m, e⟩ g)) ∧ Below w.heap.size w w' := by
 by_cases h0 : m = 0
 · have hk : j0s ⟨s, m, e⟩ g = true := by unfold j0s; rw [if_pos h0]
   have HS := lHd (show f0l ⟨s, m, e⟩ = 0 by unfold f0l; rw [if_pos h0])
   rw [hk]
   clear hk h0
   go_enter Tryz.func167, Tryz.ntmps167
   go_wp2_with fail
   refine o0k (fun W1 hb1 hz1 A B => ?_)
   have hs1 := hb1
   ((with_reducible refine (d0m s p _ c e m _ rfl).mono ?_))
   rintro e2 w2 ⟨rfl, hb2⟩
   rw [HS.out]
   go_wp2
   go_ret
   exact ⟨rfl, hs1.trans (hb2.mono hs1.size)⟩
 · have hsg := j0z (g := s) (e := e) (show 0 < m by omega)
   have wp := b0m g
   have hd1 := G.d1
   have hK := b1i (show 0 < m by omega) e (w := wid g) (D := g.digs.toNat) wp.1 (by omega)
   have hl1 : (dig B32 1).length ≤ 1 := by rw [a0h a0a]; unfold B32; omega
   have HF := fun W q d (h1 : Rd W .u32 p (dig B32 m)) (h2 : Rd W .u32 q (dig B32 1)) => lHd (q0t s p q c d m 1 e g 3 _ W h1 h2 hl (by omega) (by omega) (by omega) he G (by omega) (by omega) hK)
   have hkk : j0s ⟨s, m, e⟩ g = ((fitK s m 1 e g 3 ((e + blen m - 1) / wid g - g.digs.toNat + 1)).exact && !(fitK s m 1 e g 3 ((e + blen m - 1) / wid g - g.digs.toNat + 1)).over && (!(fitK s m 1 e g 3 ((e + blen m - 1) / wid g - g.digs.toNat + 1)).under || g.grad)) := by
    unfold j0s
    rw [if_neg h0]
    rfl
   rw [hkk]
   generalize fitK s m 1 e g 3 ((e + blen m - 1) / wid g - g.digs.toNat + 1) = pf at *
   clear hkk h0 hK hd1 wp
   generalize hds : f0l ⟨s, m, e⟩ = sg0 at *
   have HSG := lHd hds
   clear hds
   go_enter Tryz.func167, Tryz.ntmps167
   go_wp2_with fail
   refine o0k (fun W1 hb1 hz1 A B => ?_)
   replace hp := hp.past hb1
   have hs1 := hb1
   ((with_reducible refine (d0m s p _ c e m _ rfl).mono ?_))
   rintro e2 w2 ⟨rfl, hb2⟩
   rw [HSG.out]
   replace A := A.past hb2
   replace B := B.past hb2
   replace hp := hp.past hb2
   have hs2 := hs1.trans (hb2.mono hs1.size)
   go_wp2_with fail
   have hAl := A.lt
   have hBl := B.lt
   have hzd : w2.drew.heap.size = w2.heap.size := rfl
   have HZD := lHd hzd
   clear hzd
   go_cut [5] (fun s5 wx => ∃ (kx : Nat) (px : OA) (cx : Nat), s5 = .pointer (some ⟨kx, 0, none⟩) ∧ Bx wx kx #[.bool pf.neg, .slice px (dig B32 pf.d).length cx, .int .i64 pf.pow, .bool pf.exact, .bool pf.over, .bool pf.under] ∧ w2.heap.size ≤ kx ∧ Below w2.heap.size w2 wx)
   case first =>
    go_region_held3 (fun w' => (w'.cell? ⟨w.heap.size, 0, none⟩ = some (.bool s) ∧ w'.cell? ⟨w.heap.size, 1, none⟩ = some (.slice p (dig B32 m).length c) ∧ w'.cell? ⟨w.heap.size, 2, none⟩ = some (.int .i64 e)) ∧
        (w'.cell? ⟨w.heap.size + 1, 0, none⟩ = some (.int .i64 g.rad) ∧ w'.cell? ⟨w.heap.size + 1, 1, none⟩ = some (.int .i64 g.digs) ∧ w'.cell? ⟨w.heap.size + 1, 2, none⟩ = some (.int .i64 g.lo) ∧ w'.cell? ⟨w.heap.size + 1, 3, none⟩ = some (.int .i64 g.hi) ∧ w'.cell? ⟨w.heap.size + 1, 4, none⟩ = some (.bool g.grad)))
     (first
     | with_reducible exact ⟨A.e3, B.e5⟩
     | with_reducible exact ⟨(A.drew).e3, (B.drew).e5⟩
     | with_reducible exact ⟨((A.laid _).drew).e3, ((B.laid _).drew).e5⟩
     | with_reducible exact ⟨(((A.laid _).drew).past hbx).e3, (((B.laid _).drew).past hbx).e5⟩
     | with_reducible exact ⟨((A.drew).past hbx).e3, ((B.drew).past hbx).e5⟩
     | with_reducible exact ⟨(((A.drew).past hbx).laid _).e3, (((B.drew).past hbx).laid _).e5⟩
     | with_reducible exact ⟨((((A.laid _).drew).past hbx).past hby).e3, ((((B.laid _).drew).past hbx).past hby).e5⟩
     | with_reducible exact ⟨((((A.drew).past hbx).laid _).past hby).e3, ((((B.drew).past hbx).laid _).past hby).e5⟩
     | with_reducible exact ⟨(((A.drew).past hbx).past hby).e3, (((B.drew).past hbx).past hby).e5⟩
     | with_reducible exact ⟨((((A.drew).past hbx).past hby).laid _).e3, ((((B.drew).past hbx).past hby).laid _).e5⟩
     | with_reducible exact ⟨(((((A.laid _).drew).past hbx).past hby).only (p0q _ _ _ _ _ _ _ _) (by omega)).e3, (((((B.laid _).drew).past hbx).past hby).only (p0q _ _ _ _ _ _ _ _) (by omega)).e5⟩
     | with_reducible exact ⟨(((((A.drew).past hbx).laid _).past hby).only (p0q _ _ _ _ _ _ _ _) (by omega)).e3, (((((B.drew).past hbx).laid _).past hby).only (p0q _ _ _ _ _ _ _ _) (by omega)).e5⟩)
     (first
       | (go_at_call 229; ((with_reducible refine (y0u s p _ c e _).mono ?_)); rintro ex wx ⟨qx, dx, rfl, hox, hbx⟩; (have hzx : w2.heap.size ≤ wx.heap.size := by have := hbx.size; simp at this; omega))
       | (go_at_call 37; (first
           | with_reducible refine (HF _ qx dx (hp.drew.past hbx) hox.rd).out.mono ?_
           | with_reducible refine (HF _ qx dx ((hp.laid _).drew.past hbx) hox.rd).out.mono ?_
           | with_reducible refine (HF _ qx dx ((hp.drew.past hbx).laid _) (hox.rd.laid _)).out.mono ?_); rintro ey wy ⟨py, cy, rfl, hoy, hby⟩; (first
           | (have XX := (i0i w2 #[.bool false, .slice none 0 0, .int .i64 0, .bool false, .bool false, .bool false] 84).drew.past hbx |>.past hby; obtain ⟨X_0, X_1, X_2, X_3, X_4, X_5⟩ := XX.e6; have X_f0 := XX.f 0; have X_f1 := XX.f 1; have X_f2 := XX.f 2; have X_f3 := XX.f 3; have X_f4 := XX.f 4; have X_f5 := XX.f 5)
           | (have XX := (i0i wx #[.bool false, .slice none 0 0, .int .i64 0, .bool false, .bool false, .bool false] 84).past hby; obtain ⟨X_0, X_1, X_2, X_3, X_4, X_5⟩ := XX.e6; have X_f0 := XX.f 0; have X_f1 := XX.f 1; have X_f2 := XX.f 2; have X_f3 := XX.f 3; have X_f4 := XX.f 4; have X_f5 := XX.f 5)
           | skip)))
    all_goals (go_wp2_with fail)
    all_goals go_meet
    · have hzy := hby.size
      exact ⟨wy.heap.size, py, cy, rfl, i0i wy _ _, by omega, (((Below.refl w2.heap.size w2).drew.trans hbx).trans (hby.mono hzx)).trans ((c0r wy _).mono (by omega))⟩
    · have hzy := hby.size
      rw [World.size_alloc] at hzy
      have hO := p0q wy wx.heap.size (.bool pf.neg) (.slice py (dig B32 pf.d).length cy) (.int .i64 pf.pow) (.bool pf.exact) (.bool pf.over) (.bool pf.under)
      exact ⟨wx.heap.size, py, cy, rfl, XX.put6 _ _ _ _ _ _, hzx, ((((Below.refl w2.heap.size w2).drew.trans hbx).trans ((c0r wx _).mono hzx)).trans (hby.mono (by rw [World.size_alloc]; omega))).trans (hO.below hzx)⟩
    · have hzy := hby.size
      have hO := p0q wy w2.heap.size (.bool pf.neg) (.slice py (dig B32 pf.d).length cy) (.int .i64 pf.pow) (.bool pf.exact) (.bool pf.over) (.bool pf.under)
      exact ⟨w2.heap.size, py, cy, rfl, XX.put6 _ _ _ _ _ _, Nat.le_refl _, ((((c0r w2 _).drew).trans (hbx.mono (by simp))).trans (hby.mono hzx)).trans (hO.below (Nat.le_refl _))⟩
   case rest =>
    obtain ⟨kx, px, cx, rfl, X, hkx, hbc⟩ := hcut
    have hs4 := hs2.trans (hbc.mono hs2.size)
    replace B := B.past hbc
    clear hbc
    obtain ⟨png, pd, ppw, pex, pov, pun⟩ := pf
    obtain ⟨X_0, X_1, X_2, X_3, X_4, X_5⟩ := X.e6
    obtain ⟨B_0, B_1, B_2, B_3, B_4⟩ := B.e5
    simp only at X_3 X_4 X_5 ⊢
    clear HF
    generalize hgr : g.grad = gr at *
    have HGR := lHd hgr
    clear hgr
    cases pex <;> cases pov <;> cases pun <;> cases gr <;> (go_wp2; go_ret; exact ⟨by first | rfl | (rw [HGR.out]; rfl), hs4⟩)
end Go.Proofs.YtgbbhlginbmghaaGreatDoor
namespace Go.Slip
theorem h1m {s : Bool} {m : Nat} {e : Int} {g : Gd} (G : k0u g) (hin : b0u ⟨s, m, e⟩ g = true) (h0 : m ≠ 0) :
 (fitK s m 1 e g 3 ((e + blen m - 1) / wid g - g.digs.toNat + 1)).d = qP m 1 (e - wid g * c0c ⟨s, m, e⟩ g) ∧
 ((fitK s m 1 e g 3 ((e + blen m - 1) / wid g - g.digs.toNat + 1)).d ≠ 0 → (fitK s m 1 e g 3 ((e + blen m - 1) / wid g - g.digs.toNat + 1)).pow = c0c ⟨s, m, e⟩ g) ∧
 (fitK s m 1 e g 3 ((e + blen m - 1) / wid g - g.digs.toNat + 1)).d ≠ 0 := by
 have hb := b1p G hin h0
 simp only at hb
 have hp : powK g ((e + blen m - 1) / wid g - g.digs.toNat + 1) = c0c ⟨s, m, e⟩ g := by
  have eK : c0c ⟨s, m, e⟩ g = max g.lo ((e + blen m - 1) / wid g - g.digs.toNat + 1) := rfl
  rw [eK]
  unfold powK
  by_cases h1 : (e + blen m - 1) / wid g - g.digs.toNat + 1 < g.lo
  · by_cases h2 : g.grad = true
    · rw [if_pos ⟨h1, h2⟩]; omega
    · exfalso
      unfold b0u at hin
      rw [if_neg h0] at hin
      have eU : upK ⟨s, m, e⟩ (wid g) g.digs.toNat = (e + blen m - 1) / wid g - g.digs.toNat + 1 := rfl
      rw [eU] at hin
      rw [if_pos h1, if_neg h2] at hin
      simp at hin
  · rw [if_neg (fun h => h1 h.1)]; omega
 unfold fitK
 simp only
 rw [hp, b1j, s0d]
 have hq : qP m 1 (e - wid g * c0c ⟨s, m, e⟩ g) ≠ 0 := by
  unfold qP numP denP
  rw [show (-(e - wid g * c0c ⟨s, m, e⟩ g)).toNat = 0 by omega, Nat.pow_zero, Nat.mul_one, Nat.div_one]
  have := Nat.mul_pos (show 0 < m by omega) (Nat.pow_pos (n := (e - wid g * c0c ⟨s, m, e⟩ g).toNat) (show 0 < 2 by omega))
  omega
 exact ⟨rfl, fun h => by rw [if_neg h], hq⟩
end Go.Slip
namespace Go.Proofs.YtgbbhlginbmghaaGreatDoor
open Go.RowKit Go.Slip
theorem h0u (f : Fm) (w : World) : Calls Tryz.prog 230 #[(fV f)] w fun en w' => en = .returned (.int .i64 ((wid f.g : Nat) : Int)) ∧ Below w.heap.size w w' := by
 by_cases h : f.g.rad = 16
 · have hw : wid f.g = 4 := by unfold wid; rw [if_pos h]
   rw [hw]
   have I := Inv.start w [] True.intro
   refine a0c [.v ((fV f))] I Tryz.func230 ?_
   refine zb I 6 (f.g.rad == 16) (true) (beq_iff_eq.2 h) fun Al W I => zrb I
 · have hw : wid f.g = 1 := by unfold wid; rw [if_neg h]
   rw [hw]
   have I := Inv.start w [] True.intro
   refine a0c [.v ((fV f))] I Tryz.func230 ?_
   refine zb I 6 (f.g.rad == 16) (false) (bFn h) fun Al W I => zrb I
theorem m1k (f : Fm) (g : Bool) (m : Nat) (pw k : Int) (p : OA) (c : Nat) (w : World) (hp : Rd w .u32 p (dig B32 m)) (hc : (dig B32 m).length ≤ c) (hl : (dig B32 m).length ≤ 1000000) (hpw : -100000 ≤ pw ∧ pw ≤ 100000) (hT : TabW w) :
 Calls Tryz.prog 168 #[(fV f), .agg #[.int .i64 k, .bool g, .slice p (dig B32 m).length c, .int .i64 pw]] w (f0g w w.heap.size (bare ⟨g, m, wid f.g * pw⟩)) := by
 have wp := b0m f.g
 have hmu := s0w (wd := wid f.g) (k := pw) (B := 100000) wp.2 hpw
 rw [← s0j]
 generalize hmw : (wid f.g : Int) * pw = mw at *
 have HMW := lHd hmw
 have HW := fun W h1 h2 => lHd (s0u p _ c mw m W h1 rfl hc (by omega) (by omega) h2)
 clear hmw
 generalize hd : bare ⟨false, m, mw⟩ = d at *
 clear hd
 cases g with
 | false =>
  rw [if_neg (by simp)]
  have I := Inv.start w [rdF .u32 p (dig B32 m), tabF] ⟨hp, hT, True.intro⟩
  refine a0c [.v ((fV f)), .v (.agg #[.int .i64 k, .bool false, .slice p (dig B32 m).length c, .int .i64 pw])] I Tryz.func168 ?_
  refine zcut I none (fun fr bx gs => ∃ (U1 : Nat → Value) (p13 : OA) (c13 : Nat), fr = (.v ((fV f)) :: .v (.agg #[vI k, .bool false, vS (dig B32 m) p c, vI pw]) :: .p 0 0 :: .p 1 0 :: .p 2 0 :: .p 3 0 :: sw U1 6 9 (vu :: sw U1 16 3 []) : List SV) ∧ bx = [⟨98, [.v (vI (f.size : Int)), .v (vI (f.E : Int)), .v (vI (f.F : Int)), .v (vI f.g.rad), .v (vI f.g.digs), .v (vI f.g.lo), .v (vI f.g.hi), .v (.bool f.g.grad), .v (.bool f.hid), .v (.bool f.inf), .v (.bool f.res), .v (.func (.func (ordF f)) #[] #[])], false⟩, ⟨61, [.v (vI k), .v (.bool false), .v (vS (dig B32 m) p c), .v (vI pw)], false⟩, ⟨129, [.v (.bool false), .v (.slice none 0 0), .v (vI 0)], false⟩, ⟨129, [.v (.bool d.neg), .v (vS (dig B32 d.m) p13 c13), .v (vI d.e)], false⟩] ∧ gs = [ownF w.heap.size .u32 139 p13 c13 (dig B32 d.m), rdF .u32 p (dig B32 m), tabF]) ?_ ?_
  · intro J hJ Al W I
    refine zd [] I fun Al W I => zk [0, 1, 2, 4, 5] I fun I => zo2 3 8 I (fun I => ?_) (fun I => ?_)
    · refine zq I (fun Al W I => h0u f W) fun Al W I => zki 6 I .i64 (((wid f.g : Nat) : Int) * pw) (mw) ((by rw [HMW.out]; exact iwo)) fun I => zo2 7 8 I (fun I => ?_) (fun I => ?_)
      · refine zqo I (fun Al W I => (HW W I.fa.1 I.fa.2.1).out) fun Al W p13 c13 I => zo 8 I fun I => zn I fun Al W I => zo 9 I fun I => zn I fun Al W I => a0j I J fun Al W U I => hJ _ _ _ _ _ ⟨U, p13, c13, rfl, rfl, rfl⟩ (I.pick [0, 1, 2])
      refine zn I fun Al W I => zo 7 I fun I => zqo I (fun Al W I => (HW W I.fa.1 I.fa.2.1).out) fun Al W p13 c13 I => zo 9 I fun I => zn I fun Al W I => a0j I J fun Al W U I => hJ _ _ _ _ _ ⟨U, p13, c13, rfl, rfl, rfl⟩ (I.pick [0, 1, 2])
    refine zn I fun Al W I => zo 3 I fun I => zq I (fun Al W I => h0u f W) fun Al W I => zki 6 I .i64 (((wid f.g : Nat) : Int) * pw) (mw) ((by rw [HMW.out]; exact iwo)) fun I => zo 7 I fun I => zqo I (fun Al W I => (HW W I.fa.1 I.fa.2.1).out) fun Al W p13 c13 I => zo 9 I fun I => zn I fun Al W I => a0j I J fun Al W U I => hJ _ _ _ _ _ ⟨U, p13, c13, rfl, rfl, rfl⟩ (I.pick [0, 1, 2])
  rintro _ _ _ ⟨U1, p13, c13, rfl, rfl, rfl⟩ Al W I
  exact zret I fun Al W I => ⟨p13, c13, rfl, I.fa.1.mono (by omega), I.below⟩
 | true =>
  rw [if_pos rfl]
  have I := Inv.start w [rdF .u32 p (dig B32 m), tabF] ⟨hp, hT, True.intro⟩
  refine a0c [.v ((fV f)), .v (.agg #[.int .i64 k, .bool true, .slice p (dig B32 m).length c, .int .i64 pw])] I Tryz.func168 ?_
  refine zcut I none (fun fr bx gs => ∃ (U1 : Nat → Value) (p13 : OA) (c13 : Nat), fr = (.v ((fV f)) :: .v (.agg #[vI k, .bool true, vS (dig B32 m) p c, vI pw]) :: .p 0 0 :: .p 1 0 :: .p 2 0 :: .p 3 0 :: sw U1 6 9 (vu :: sw U1 16 3 []) : List SV) ∧ bx = [⟨98, [.v (vI (f.size : Int)), .v (vI (f.E : Int)), .v (vI (f.F : Int)), .v (vI f.g.rad), .v (vI f.g.digs), .v (vI f.g.lo), .v (vI f.g.hi), .v (.bool f.g.grad), .v (.bool f.hid), .v (.bool f.inf), .v (.bool f.res), .v (.func (.func (ordF f)) #[] #[])], false⟩, ⟨61, [.v (vI k), .v (.bool true), .v (vS (dig B32 m) p c), .v (vI pw)], false⟩, ⟨129, [.v (.bool false), .v (.slice none 0 0), .v (vI 0)], false⟩, ⟨129, [.v (.bool d.neg), .v (vS (dig B32 d.m) p13 c13), .v (vI d.e)], false⟩] ∧ gs = [ownF w.heap.size .u32 139 p13 c13 (dig B32 d.m), rdF .u32 p (dig B32 m), tabF]) ?_ ?_
  · intro J hJ Al W I
    refine zd [] I fun Al W I => zk [0, 1, 2, 4, 5] I fun I => zo2 3 8 I (fun I => ?_) (fun I => ?_)
    · refine zq I (fun Al W I => h0u f W) fun Al W I => zki 6 I .i64 (((wid f.g : Nat) : Int) * pw) (mw) ((by rw [HMW.out]; exact iwo)) fun I => zo2 7 8 I (fun I => ?_) (fun I => ?_)
      · refine zqo I (fun Al W I => (HW W I.fa.1 I.fa.2.1).out) fun Al W p13 c13 I => zo 8 I fun I => zn I fun Al W I => zo 9 I fun I => zn I fun Al W I => a0j I J fun Al W U I => hJ _ _ _ _ _ ⟨U, p13, c13, rfl, rfl, rfl⟩ (I.pick [0, 1, 2])
      refine zn I fun Al W I => zo 7 I fun I => zqo I (fun Al W I => (HW W I.fa.1 I.fa.2.1).out) fun Al W p13 c13 I => zo 9 I fun I => zn I fun Al W I => a0j I J fun Al W U I => hJ _ _ _ _ _ ⟨U, p13, c13, rfl, rfl, rfl⟩ (I.pick [0, 1, 2])
    refine zn I fun Al W I => zo 3 I fun I => zq I (fun Al W I => h0u f W) fun Al W I => zki 6 I .i64 (((wid f.g : Nat) : Int) * pw) (mw) ((by rw [HMW.out]; exact iwo)) fun I => zo 7 I fun I => zqo I (fun Al W I => (HW W I.fa.1 I.fa.2.1).out) fun Al W p13 c13 I => zo 9 I fun I => zn I fun Al W I => a0j I J fun Al W U I => hJ _ _ _ _ _ ⟨U, p13, c13, rfl, rfl, rfl⟩ (I.pick [0, 1, 2])
  rintro _ _ _ ⟨U1, p13, c13, rfl, rfl, rfl⟩ Al W I
  refine zq I (fun Al W I => c1q d.neg p13 _ c13 d.e d.m W rfl) fun Al W I => zret I fun Al W I => ⟨p13, c13, rfl, I.fa.1.mono (by omega), I.below⟩
theorem w0t (f : Fm) (g : Bool) (E : Int) (e x : Nat) (hE : E = e) (p : OA) (c : Nat) (w : World) (G : b0z f) (hp : Rd w .u32 p (dig B32 x)) (he : e < 2 ^ f.E) (hx : x < 2 ^ f.F) :
 Calls Tryz.prog 171 #[(fV f), .agg #[.bool g, .int .i64 E, .slice p (dig B32 x).length c]] w fun en w' => en = .returned (.string (a0e (f.str g e x))) ∧ Below w.heap.size w w' := by
 subst hE
 exact w0s f g e x p c w G hp he hx
theorem m1l {F : Nat} (h : F ≤ 64) : (dig B32 (2 ^ F)).length ≤ 3 := a0q (n := F + 1) (Nat.pow_lt_pow_right (by omega) (by omega)) (by omega)
theorem y0v (f : Fm) (d : Dv) (p : OA) (c : Nat) (w : World) (G : b0z f) (hp : Rd w .u32 p (dig B32 d.m)) (hl : (dig B32 d.m).length ≤ 1200) (he : -60000 ≤ d.e ∧ d.e ≤ 60000) (hin : b0u d f.g = true) (h0 : d.m ≠ 0) :
 Calls Tryz.prog 169 #[(fV f), .agg #[.bool d.neg, .slice p (dig B32 d.m).length c, .int .i64 d.e]] w fun en w' => en = .returned (.string (a0e (f.strP (f.numP d)))) ∧ Below w.heap.size w w' := by
 have hg := c0m G.g
 have N := c1c G hin h0
 have hlt := c1d G N
 obtain ⟨s, m, e⟩ := d
 simp only at h0 hl he hp
 have hd1 := hg.d1
 have hd2 := hg.d2
 have hl1 : (dig B32 1).length ≤ 1 := by rw [a0h a0a]; unfold B32; omega
 obtain ⟨f1, f2, f3⟩ := h1m hg hin h0
 have f4 := f2 f3
 have hq : qP m 1 (e - wid f.g * c0c ⟨s, m, e⟩ f.g) = f.fr ⟨s, m, e⟩ := by
  have := N.e0
  simp only at this
  unfold qP numP denP Fm.fr
  rw [show (-(e - wid f.g * c0c ⟨s, m, e⟩ f.g)).toNat = 0 by omega, Nat.pow_zero, Nat.mul_one, Nat.div_one]
 rw [hq] at f1
 have hK := b1i (show 0 < m by omega) e (w := wid f.g) (D := f.g.digs.toNat) (b0m f.g).1 (by omega)
 have HF := fun W q d (h1 : Rd W .u32 p (dig B32 m)) (h2 : Rd W .u32 q (dig B32 1)) => lHd (q0t s p q c d m 1 e f.g 3 _ W h1 h2 (by omega) (by omega) (by omega) (by omega) (by omega) hg (by omega) (by omega) hK)
 have hlow := N.low
 have hbl := N.bl
 have hk1 := N.k1
 have hk2 := N.k2
 have hfl : (dig B32 (f.fr ⟨s, m, e⟩)).length ≤ 16 := a0q N.lt (k := 16) (by have := Nat.mul_le_mul (b0m f.g).2 (show f.g.digs.toNat ≤ 120 by omega); omega)
 have hnp : f.numP ⟨s, m, e⟩ = if f.fam = 2 then ⟨s, (c0c ⟨s, m, e⟩ f.g - f.g.lo).toNat, f.fr ⟨s, m, e⟩⟩
  else if (blen (f.fr ⟨s, m, e⟩) : Int) = f.g.digs then ⟨s, (c0c ⟨s, m, e⟩ f.g - f.g.lo).toNat + 1, if f.ext then f.fr ⟨s, m, e⟩ else f.fr ⟨s, m, e⟩ - 2 ^ f.F⟩
  else ⟨s, (c0c ⟨s, m, e⟩ f.g - f.g.lo).toNat, f.fr ⟨s, m, e⟩⟩ := rfl
 rw [hnp] at hlt ⊢
 clear hnp N
 generalize f.fr ⟨s, m, e⟩ = X at *
 generalize c0c ⟨s, m, e⟩ f.g = K at *
 generalize fitK s m 1 e f.g 3 ((e + blen m - 1) / wid f.g - f.g.digs.toNat + 1) = pf at *
 obtain ⟨pn, pd, pp, pex, pov, pun⟩ := pf
 simp only at f1 f4
 subst f1 f4
 clear hK f2 f3 hq
 have z5 := G.lo
 have z6 := G.hi
 have hr := G.rad
 have hw := G.w
 have HJ := fun (W : World) (g : Bool) (e x : Nat) (p : OA) (c : Nat) h h1 h2 => lHd (w0s f g e x p c W G h h1 h2)
 unfold Fm.strP
 have ht := m1l G.f2
 have hh : f.fam ≠ 2 → (f.hid = true ↔ f.ext = false) := fun h => by unfold Fm.hid; cases f.ext <;> simp [h]
 have h33 : (f.g.rad == 2) = true ↔ f.fam ≠ 2 := by rw [beq_iff_eq]; split at hr <;> omega
 have hge : f.fam ≠ 2 → (blen pd : Int) = f.g.digs → f.ext = false → 2 ^ f.F ≤ pd := fun hf hb hx => by
  have hFF := G.d1 hf hx
  have h1 := g0h pd ((e0d pd).1 (by omega))
  rw [show blen pd - 1 = f.F by omega] at h1
  exact h1
 have hbd : f.fam ≠ 2 → (blen pd : Int) ≤ f.g.digs := fun hf => by rw [if_neg hf] at hw; rw [hw] at hbl; omega
 obtain ⟨Q, hQ⟩ : ∃ Q, (if f.fam = 2 then (⟨s, (pp - f.g.lo).toNat, pd⟩ : Pt)
   else if (blen pd : Int) = f.g.digs then ⟨s, (pp - f.g.lo).toNat + 1, if f.ext then pd else pd - 2 ^ f.F⟩
   else ⟨s, (pp - f.g.lo).toNat, pd⟩) = Q := ⟨_, rfl⟩
 rw [hQ] at hlt ⊢
 obtain ⟨q33, hq33⟩ : ∃ q, (f.g.rad == 2) = q := ⟨_, rfl⟩
 let aA : Box := ⟨98, [.v (.int .i64 (f.size : Int)), .v (.int .i64 (f.E : Int)), .v (.int .i64 (f.F : Int)), .v (.int .i64 f.g.rad), .v (.int .i64 f.g.digs), .v (.int .i64 f.g.lo), .v (.int .i64 f.g.hi), .v (.bool f.g.grad), .v (.bool f.hid), .v (.bool f.inf), .v (.bool f.res), .v (.func (.func (ordF f)) #[] #[])], false⟩
 let aB : Box := ⟨129, [.v (.bool s), .v (.slice p (dig B32 m).length c), .v (.int .i64 e)], false⟩
 let aC : SV := .v ((fV f))
 let aD : SV := .v (.agg #[.bool s, .slice p (dig B32 m).length c, .int .i64 e])
 have I := Inv.start w [rdF .u32 p (dig B32 m)] ⟨hp, True.intro⟩
 refine a0c [.v ((fV f)), .v (.agg #[.bool s, .slice p (dig B32 m).length c, .int .i64 e])] I Tryz.func169 ?_
 refine zcut I none (fun fr bx gs => ∃ (U1 : Nat → Value) (p21 : OA) (c21 : Nat), fr = (aC :: aD :: .p 0 0 :: .p 1 0 :: .v (Go.Value.string (ByteArray.mk #[])) :: .p 2 0 :: su 2 (sw U1 8 25 (vu :: sw U1 34 7 (vu :: .v (U1 42) :: vu :: sw U1 44 13 []))) : List SV) ∧ bx = [aA, aB, ⟨84, [.v (.bool pn), .v (vS (dig B32 pd) p21 c21), .v (vI pp), .v (.bool pex), .v (.bool pov), .v (.bool pun)], false⟩] ∧ gs = [ownF w.heap.size .u32 139 p21 c21 (dig B32 pd), rdF .u32 p (dig B32 m)]) ?_ ?_
 · intro J hJ Al W I
   refine zd [] I fun Al W I => zk [0, 1, 2, 3, 4, 5, 7, 8, 9, 11, 12] I fun I => zo2 6 14 I (fun I => ?_) (fun I => ?_)
   · refine zqo I (fun Al W I => have hzW := I.bel.size; sof 1 1 rfl (by omega) W) fun Al W p14 c14 I => zk [10] I fun I => zo2 13 14 I (fun I => ?_) (fun I => ?_)
     · refine zg I (fun Al W I => (HF W p14 c14 I.fa.2.1 I.fa.1.rd).out) fun Al V Iv _ hB _ kz => ?_
       rintro _ W ⟨p21, c21, rfl, o21, hb⟩
       refine ⟨_, rfl, kz _ _ hb fun I => ?_⟩
       have I := I.own o21
       refine zo 14 I fun I => zn I fun Al W I => zo 15 I fun I => zn I fun Al W I => a0j I J fun Al W U I => hJ _ _ _ _ _ ⟨U, p21, c21, rfl, rfl, rfl⟩ (I.pick [0, 2])
     refine zn I fun Al W I => zo 13 I fun I => zg I (fun Al W I => (HF W p14 c14 I.fa.2.1 I.fa.1.rd).out) fun Al V Iv _ hB _ kz => ?_
     rintro _ W ⟨p21, c21, rfl, o21, hb⟩
     refine ⟨_, rfl, kz _ _ hb fun I => ?_⟩
     have I := I.own o21
     refine zo 15 I fun I => zn I fun Al W I => a0j I J fun Al W U I => hJ _ _ _ _ _ ⟨U, p21, c21, rfl, rfl, rfl⟩ (I.pick [0, 2])
   refine zn I fun Al W I => zo 6 I fun I => zqo I (fun Al W I => have hzW := I.bel.size; sof 1 1 rfl (by omega) W) fun Al W p14 c14 I => zk [10] I fun I => zo 13 I fun I => zg I (fun Al W I => (HF W p14 c14 I.fa.2.1 I.fa.1.rd).out) fun Al V Iv _ hB _ kz => ?_
   rintro _ W ⟨p21, c21, rfl, o21, hb⟩
   refine ⟨_, rfl, kz _ _ hb fun I => ?_⟩
   have I := I.own o21
   refine zo 15 I fun I => zn I fun Al W I => a0j I J fun Al W U I => hJ _ _ _ _ _ ⟨U, p21, c21, rfl, rfl, rfl⟩ (I.pick [0, 2])
 rintro _ _ _ ⟨U1, p21, c21, rfl, rfl, rfl⟩ Al W I
 refine zi I 27 .i64 (pp - f.g.lo) ((((pp - f.g.lo).toNat : Nat) : Int)) ((by rw [show (((pp - f.g.lo).toNat : Nat) : Int) = pp - f.g.lo by omega]; exact iwo)) fun Al W I => zb I 33 (f.g.rad == 2) (q33) (hq33) fun Al W I => zcut I (some 2000033) (fun fr bx gs => ∃ (U2 : Nat → Value) (e1 : Nat) (x1 : Nat) (p1 : OA) (c1 : Nat), fr = (aC :: aD :: .p 0 0 :: .p 1 0 :: .v (Go.Value.string (ByteArray.mk #[])) :: .p 2 0 :: .v (vI (e1 : Int)) :: .v (vS (dig B32 x1) p1 c1) :: sw U2 8 25 (.v (.bool q33) :: sw U2 34 23 []) : List SV) ∧ bx = [aA, aB, ⟨84, [.v (.bool pn), .v (vS (dig B32 pd) p21 c21), .v (vI pp), .v (.bool pex), .v (.bool pov), .v (.bool pun)], false⟩] ∧ gs = [ownF w.heap.size .u32 139 p1 c1 (dig B32 x1), rdF .u32 p (dig B32 m)] ∧ (Q = ⟨s, e1, x1⟩)) ?_ ?_
 · intro J hJ Al W I
   rcases bTF q33 with rfl | rfl
   · refine zi I 35 .i64 ((((pp - f.g.lo).toNat : Nat) : Int) + 1) ((((pp - f.g.lo).toNat + 1 : Nat) : Int)) ((by rw [show ((((pp - f.g.lo).toNat : Nat) : Int) + 1) = (((pp - f.g.lo).toNat + 1 : Nat) : Int) by omega]; exact iwo)) fun Al W I => ?_
     by_cases s41 : ((blen pd : Nat) : Int) < f.g.digs
     · have hf := h33.1 hq33
       refine zd [] I fun Al W I => zk [0, 2, 3, 4] I fun I => zo 1 I fun I => zq I (fun Al W I => have hzW := I.bel.size; stay (h0j p21 _ c21 pd W I.fa.1.rd rfl (by omega))) fun Al W I => zkb 5 I (decide (((blen pd : Nat) : Int) < f.g.digs)) (true) (dTr s41) fun I => a0j I J fun Al W U I => hJ _ _ _ _ _ ⟨U, 0, pd, p21, c21, rfl, rfl, rfl, (by have hf := h33.1 hq33; rw [← hQ, if_neg hf, if_neg (by omega), show (pp - f.g.lo).toNat = 0 by have := (hlow hf (by omega)).1; omega])⟩ (I.pick [0, 1])
     have hf := h33.1 hq33
     refine zd [] I fun Al W I => zk [0, 2, 3, 4] I fun I => zo 1 I fun I => zq I (fun Al W I => have hzW := I.bel.size; stay (h0j p21 _ c21 pd W I.fa.1.rd rfl (by omega))) fun Al W I => zkb 5 I (decide (((blen pd : Nat) : Int) < f.g.digs)) (false) (dFa s41) fun I => ?_
     rcases bTF (f.hid) with f43 | f43
     · refine zb I 43 (f.hid) (true) (f43) fun Al W I => zqo I (fun Al W I => have hzW := I.bel.size; h0l f.F (2 ^ f.F) _ W (by have := G.f2; omega) rfl rfl) fun Al W p47 c47 I => zqo I (fun Al W I => have hzW := I.bel.size; ssub p21 p47 _ _ c21 c47 pd (2 ^ f.F) (pd - 2 ^ f.F) W I.fa.2.1.rd I.fa.1.rd rfl rfl (by omega) (hge (h33.1 hq33) (by have := hbd (h33.1 hq33); omega) ((hh (h33.1 hq33)).1 f43)) rfl) fun Al W p48 c48 I => a0j I J fun Al W U I => hJ _ _ _ _ _ ⟨U, ((pp - f.g.lo).toNat + 1), (pd - 2 ^ f.F), p48, c48, rfl, rfl, rfl, (by have hf := h33.1 hq33; have := hbd hf; rw [← hQ, if_neg hf, if_pos (by omega), if_neg (by rw [(hh hf).1 f43]; exact Bool.false_ne_true)])⟩ (I.pick [0, 3])
     refine zb I 43 (f.hid) (false) (f43) fun Al W I => a0j I J fun Al W U I => hJ _ _ _ _ _ ⟨U, ((pp - f.g.lo).toNat + 1), pd, p21, c21, rfl, rfl, rfl, (by have hf := h33.1 hq33; have := hbd hf; rw [← hQ, if_neg hf, if_pos (by omega), if_pos (by cases hx : f.ext; (have := (hh hf).2 hx; rw [f43] at this; cases this); rfl)])⟩ (I.pick [0, 1])
   exact a0j I J fun Al W U I => hJ _ _ _ _ _ ⟨U, (pp - f.g.lo).toNat, pd, p21, c21, rfl, rfl, rfl, (by rw [← hQ, if_pos (by by_cases h : f.fam = 2; exact h; (have := h33.2 h; rw [hq33] at this; cases this))])⟩ (I.pick [0, 1])
 rintro _ _ _ ⟨U2, e1, x1, p1, c1, rfl, rfl, rfl, hQ1⟩ Al W I
 refine zq I (fun Al W I => (HJ W s e1 x1 p1 c1 I.fa.1.rd (by rw [hQ1] at hlt; exact hlt.1) (by rw [hQ1] at hlt; exact hlt.2)).out) fun Al W I => zret I (v := fun Al => .string (a0e (f.str s e1 x1))) fun Al W I => ⟨by rw [hQ1], I.below⟩
def numD (f : Fm) (a : Din) : Dv := bare ⟨a.g, val B32 a.xs, wid f.g * a.e⟩
def c0b (f : Fm) (cls : Int) (a : Din) : Int :=
 if cls < 1 ∨ 5 < cls then 6
 else if a0w a.xs ≠ 0 then a0w a.xs
 else if ((cls = 3 ∨ cls = 4) ∧ f.inf = false) ∨ (cls = 5 ∧ f.res = false) then 5
 else if cls = 2 then
  if a.e < -20000 ∨ 20000 < a.e then 3
  else if a.xs.length = 0 ∨ b0u (numD f a) f.g = false then 4 else 0
 else if 0 < a.xs.length ∨ a.e ≠ 0 ∨ (a.g = true ∧ (4 ≤ cls ∨ f.res = true)) then 4 else 0
def o0z (f : Fm) (cls : Int) (a : Din) : ByteArray := a0e (f.strP (f.encP cls.toNat a.g (numD f a)))
def t0c (w : World) (er : Int) (s : ByteArray) (en : Ending) (w' : World) : Prop :=
 en = .returned (.tuple #[.string (if er = 0 then s else a0e []), .int .i64 er]) ∧ Below w.heap.size w w'
theorem c0i {w w' : World} {er r : Int} {s : ByteArray} {en : Ending} (h : er = r) (hr : r ≠ 0) (he : en = .returned (.tuple #[.string ⟨#[]⟩, .int .i64 r])) (hb : Below w.heap.size w w') : t0c w er s en w' := by
 subst h
 exact ⟨by rw [he, if_neg hr]; rfl, hb⟩
theorem f0j {w w' : World} {er : Int} {s t : ByteArray} {en : Ending} (h : er = 0) (hs : s = t) (he : en = .returned (.tuple #[.string t, .int .i64 0])) (hb : Below w.heap.size w w') : t0c w er s en w' := by
 subst h hs
 exact ⟨by rw [he, if_pos rfl], hb⟩
theorem m1m {f : Fm} {w : World} {a : Din} (ha : InD w a) (h : a0w a.xs = 0) (he : -20000 ≤ a.e ∧ a.e ≤ 20000) : (dig B32 (numD f a).m).length ≤ 1200 ∧ -100000 ≤ (numD f a).e ∧ (numD f a).e ≤ 150000 := by
 obtain ⟨h1, h2⟩ := e0i ha.lt h
 have hl : (dig B32 (val B32 a.xs)).length ≤ 1200 := by rw [← h1]; exact h2
 have k1 := l0u a0a (⟨a.g, val B32 a.xs, wid f.g * a.e⟩ : Dv)
 have wp := b0m f.g
 have hmu := s0w (wd := wid f.g) (k := a.e) (B := 20000) wp.2 he
 refine ⟨Nat.le_trans k1 hl, ?_⟩
 unfold numD
 by_cases h0 : val B32 a.xs = 0
 · rw [h0, r0w]; simp
 · have ht := f0y (m := val B32 a.xs) (by omega)
   have hb := d0e (val B32 a.xs)
   unfold bare
   rw [if_neg h0]
   simp only
   omega
theorem h1n (f : Fm) (g : Bool) (E : Int) (e : Nat) (hE : E = e) (w : World) (G : b0z f) (he : e < 2 ^ f.E) :
 Calls Tryz.prog 171 #[(fV f), .agg #[.bool g, .int .i64 E, .slice none 0 0]] w fun en w' => en = .returned (.string (a0e (f.str g e 0))) ∧ Below w.heap.size w w' := by
 have := w0t f g E e 0 hE none 0 w G (by rw [a0d]; exact Rd.nil _ _ _) he (Nat.pow_pos (by omega))
 rw [a0d] at this
 exact this
theorem d1n (n : Int) (cls : Int) (a : Din) (w : World) (hn : IsFm n) (ha : InD w a) (hT : TabW w) :
 Calls Tryz.prog 121 #[.int .i64 n, .agg #[.int .i64 cls, .bool a.g, .slice a.p a.xs.length a.c, .int .i64 a.e]] w (t0c w (c0b (fmt n) cls a) (o0z (fmt n) cls a)) := by
 have G := d0a hn
 have HF := fun W => lHd (g0c n hn W)
 generalize fmt n = f at *
 have HR : ∀ (W : World), a0w a.xs = 0 → Rd W .u32 a.p a.xs → -20000 ≤ a.e ∧ a.e ≤ 20000 → TabW W → Hid (Calls Tryz.prog 168 #[(fV f), .agg #[.int .i64 cls, .bool a.g, .slice a.p a.xs.length a.c, .int .i64 a.e]] W (f0g W W.heap.size (numD f a))) := by
  intro W h1 h2 h3 h4
  obtain ⟨k1, k2⟩ := e0i ha.lt h1
  have hc := ha.cap
  have := m1k f a.g (val B32 a.xs) a.e cls a.p a.c W (by rw [← k1]; exact h2) (by rw [← k1]; exact hc) (by rw [← k1]; omega) ⟨by omega, by omega⟩ h4
  rw [← k1] at this
  exact lHd this
 have hB : Bare (numD f a) := j0g _
 have hbd := fun h h2 => m1m (f := f) ha h h2
 have hkp := f1w hB (c0m G.g)
 have hxl : 0 < a.xs.length ↔ a.xs.length ≠ 0 := by omega
 have hm0 : a0w a.xs = 0 → a.xs.length ≠ 0 → (numD f a).m ≠ 0 := fun h1 h2 h3 => by
  obtain ⟨k1, _⟩ := e0i ha.lt h1
  have h4 : val B32 a.xs ≠ 0 := fun h => h2 (by rw [k1]; exact (a0g a0a _).2 h)
  unfold numD bare at h3
  rw [if_neg h4] at h3
  simp only at h3
  have := (c0t (val B32 a.xs) (by omega)).2
  rw [h3] at this
  simp at this
 have hige := fun h => f1z (a := numD f a) G.g hB h
 have z2 := G.e2
 have z3 := G.f2
 have z4 := G.f1
 have hsh := q0b (E := f.E) (by omega)
 have h0T : 0 < 2 ^ f.E := Nat.pow_pos (by omega)
 have h0T2 : 2 ^ f.E ≤ 2 ^ 15 := Nat.pow_le_pow_right (by omega) (by omega)
 have HSH := lHd hsh
 have hlen := ha.len
 have hhid : f.inf = true → (f.hid = true ↔ f.ext = false) := fun h => by
  have h1 : f.fam = 1 := by unfold Fm.inf at h; simpa using h
  unfold Fm.hid
  rw [h1]
  cases f.ext <;> simp
 have rd := ha.rd
 unfold o0z
 obtain ⟨d, hD⟩ : ∃ d, numD f a = d := ⟨_, rfl⟩
 rw [hD] at HR hB hbd hkp hm0 hige ⊢
 have e1 : f.encP 1 a.g d = ⟨a.g, 0, 0⟩ := rfl
 have e2 : f.encP 2 a.g d = f.numP d := rfl
 have e3 : f.encP 3 a.g d = ⟨a.g, 2 ^ f.E - 1, if f.ext then 2 ^ 63 else 0⟩ := rfl
 have e4 : f.encP 4 a.g d = ⟨a.g, 2 ^ f.E - 1, if f.ext then 2 ^ 63 + 2 ^ 62 else 2 ^ (f.F - 1)⟩ := rfl
 have e5 : f.encP 5 a.g d = ⟨true, 0, 0⟩ := rfl
 have hF1 : 2 ^ (f.F - 1) < 2 ^ f.F := Nat.pow_lt_pow_right (by omega) (by omega)
 have hF0 : 0 < 2 ^ f.F := Nat.pow_pos (by omega)
 have hx64 : f.ext = true → 2 ^ f.F = 2 ^ 64 := fun h => by rw [(G.ext h).2.1]
 have hext : f.inf = true → f.hid = false → f.ext = true := fun h1 h2 => by
  cases hx : f.ext with
  | true => rfl
  | false => have := (hhid h1).2 hx; rw [h2] at this; cases this
 have hJ := fun (W : World) (g : Bool) (E : Int) (e x : Nat) (hE : E = e) (p : OA) (c : Nat) h h1 h2 => lHd (w0t f g E e x hE p c W G h h1 h2)
 have hJ0 := fun (W : World) (g : Bool) (E : Int) (e : Nat) (hE : E = e) h1 => lHd (h1n f g E e hE W G h1)
 have h63 : (dig B32 (2 ^ 63)).length ≤ 2 := a0q (n := 64) (by omega) (by omega)
 have h62 : (dig B32 (2 ^ 62)).length ≤ 2 := a0q (n := 64) (by omega) (by omega)
 generalize 2 ^ f.E = P at *
 clear hsh ha
 let aA : Box := ⟨98, [.v (.int .i64 (f.size : Int)), .v (.int .i64 (f.E : Int)), .v (.int .i64 (f.F : Int)), .v (.int .i64 f.g.rad), .v (.int .i64 f.g.digs), .v (.int .i64 f.g.lo), .v (.int .i64 f.g.hi), .v (.bool f.g.grad), .v (.bool f.hid), .v (.bool f.inf), .v (.bool f.res), .v (.func (.func (ordF f)) #[] #[])], false⟩
 let aB : Box := ⟨61, [.v (.int .i64 cls), .v (.bool a.g), .v (.slice a.p a.xs.length a.c), .v (.int .i64 a.e)], false⟩
 let aC : SV := .v (.agg #[.int .i64 cls, .bool a.g, .slice a.p a.xs.length a.c, .int .i64 a.e])
 have I := Inv.start w [rdF .u32 a.p a.xs, tabF] ⟨rd, hT, True.intro⟩
 refine a0c [.v (.int .i64 n), .v (.agg #[.int .i64 cls, .bool a.g, .slice a.p a.xs.length a.c, .int .i64 a.e])] I Tryz.func121 ?_
 refine zq I (fun Al W I => (HF W).out) fun Al W I => ?_
 rcases bTF (decide (cls < 1)) with f21 | f21
 · refine zb I 21 (decide (cls < 1)) (true) (f21) fun Al W I => ?_
   have hE : c0b f cls a = 6 := by unfold c0b; rw [if_pos (by (have := oTr f21; omega))]
   have hN : (6 : Int) ≠ 0 := by decide
   exact zret I fun Al W I => c0i hE hN rfl I.below
 refine zb I 21 (decide (cls < 1)) (false) (f21) fun Al W I => ?_
 rcases bTF (decide (cls > 5)) with f25 | f25
 · refine zb I 25 (decide (cls > 5)) (true) (f25) fun Al W I => ?_
   have hE : c0b f cls a = 6 := by unfold c0b; rw [if_pos (by (have := oTr f25; omega))]
   have hN : (6 : Int) ≠ 0 := by decide
   exact zret I fun Al W I => c0i hE hN rfl I.below
 refine zb I 25 (decide (cls > 5)) (false) (f25) fun Al W I => ?_
 have c1 : ¬ (cls < 1 ∨ 5 < cls) := by have := oFa f21; have := oFa f25; omega
 refine zq I (fun Al W I => g0l a.p _ a.c a.xs W I.fa.1 rfl hlen) fun Al W I => ?_
 rcases bTF ((a0w a.xs) != 0) with f31 | f31
 · refine zb I 31 ((a0w a.xs) != 0) (true) (f31) fun Al W I => ?_
   have hN : a0w a.xs ≠ 0 := bne_iff_ne.1 f31
   have hE : c0b f cls a = a0w a.xs := by unfold c0b; rw [if_neg c1, if_pos hN]
   exact zret I fun Al W I => c0i hE hN rfl I.below
 refine zb I 31 ((a0w a.xs) != 0) (false) (f31) fun Al W I => zcut I (some 3000009) (fun fr bx gs => ∃ (U1 : Nat → Value) (b55 : Bool), fr = (.v (vI n) :: aC :: vu :: .p 0 0 :: .v (Go.Value.string (ByteArray.mk #[])) :: .v (vI 0) :: .p 1 0 :: .v (vI 0) :: .v (vI (a0w a.xs)) :: su 2 (sw U1 11 6 (.v (.bool false) :: sw U1 18 8 (.v (.bool false) :: sw U1 27 4 (.v (.bool false) :: sw U1 32 23 (.v (.bool b55) :: sw U1 56 2 (vu :: sw U1 59 7 (vu :: sw U1 67 12 (vu :: sw U1 80 26 (vu :: sw U1 107 8 (su 2 (sw U1 117 5 (vu :: sw U1 123 2 (vu :: sw U1 126 10 (vu :: sw U1 137 4 (vu :: sw U1 142 5 []))))))))))))))) : List SV) ∧ bx = [aB, aA] ∧ gs = [rdF .u32 a.p a.xs, tabF] ∧ (a0w a.xs = 0) ∧ (b55 = decide (((cls = 3 ∨ cls = 4) ∧ f.inf = false) ∨ (cls = 5 ∧ f.res = false)))) ?_ ?_
 · intro J hJ Al W I
   have c2 : a0w a.xs = 0 := by simpa using f31
   rcases bTF (cls == 3) with f35 | f35
   · refine zb I 35 (cls == 3) (true) (f35) fun Al W I => ?_
     rcases bTF (f.inf) with f43 | f43
     · refine zb I 43 (f.inf) (true) (f43) fun Al W I => zb I 49 (cls == 5) (false) (bFn (by have := beq_iff_eq.1 f35; omega)) fun Al W I => a0j I J fun Al W U I => hJ _ _ _ _ _ ⟨U, false, rfl, rfl, rfl, c2, (by first | exact (dTr (.inl ⟨.inl (beq_iff_eq.1 f35), f43⟩)).symm | exact (dFa fun h => by rcases h with ⟨h, k⟩ | ⟨h, k⟩ <;> first | (rw [f43] at k; cases k; done) | (have q := beq_iff_eq.1 f35; omega)).symm)⟩ (I.pick [0, 1])
     refine zb I 43 (f.inf) (false) (f43) fun Al W I => a0j I J fun Al W U I => hJ _ _ _ _ _ ⟨U, true, rfl, rfl, rfl, c2, (by first | exact (dTr (.inl ⟨.inl (beq_iff_eq.1 f35), f43⟩)).symm | exact (dFa fun h => by rcases h with ⟨h, k⟩ | ⟨h, k⟩ <;> first | (rw [f43] at k; cases k; done) | (have q := beq_iff_eq.1 f35; omega)).symm)⟩ (I.pick [0, 1])
   refine zb I 35 (cls == 3) (false) (f35) fun Al W I => ?_
   rcases bTF (cls == 4) with f39 | f39
   · refine zb I 39 (cls == 4) (true) (f39) fun Al W I => ?_
     rcases bTF (f.inf) with f43 | f43
     · refine zb I 43 (f.inf) (true) (f43) fun Al W I => zb I 49 (cls == 5) (false) (bFn (by have := beq_iff_eq.1 f39; omega)) fun Al W I => a0j I J fun Al W U I => hJ _ _ _ _ _ ⟨U, false, rfl, rfl, rfl, c2, (by first | exact (dTr (.inl ⟨.inr (beq_iff_eq.1 f39), f43⟩)).symm | exact (dFa fun h => by rcases h with ⟨h, k⟩ | ⟨h, k⟩ <;> first | (rw [f43] at k; cases k; done) | (have q := beq_iff_eq.1 f39; omega)).symm)⟩ (I.pick [0, 1])
     refine zb I 43 (f.inf) (false) (f43) fun Al W I => a0j I J fun Al W U I => hJ _ _ _ _ _ ⟨U, true, rfl, rfl, rfl, c2, (by first | exact (dTr (.inl ⟨.inr (beq_iff_eq.1 f39), f43⟩)).symm | exact (dFa fun h => by rcases h with ⟨h, k⟩ | ⟨h, k⟩ <;> first | (rw [f43] at k; cases k; done) | (have q := beq_iff_eq.1 f39; omega)).symm)⟩ (I.pick [0, 1])
   refine zb I 39 (cls == 4) (false) (f39) fun Al W I => ?_
   rcases bTF (cls == 5) with f49 | f49
   · refine zb I 49 (cls == 5) (true) (f49) fun Al W I => ?_
     rcases bTF (f.res) with f52 | f52
     · refine zb I 52 (f.res) (true) (f52) fun Al W I => a0j I J fun Al W U I => hJ _ _ _ _ _ ⟨U, false, rfl, rfl, rfl, c2, (by first | exact (dTr (.inr ⟨beq_iff_eq.1 f49, f52⟩)).symm | exact (dFa fun h => by rcases h with ⟨h, k⟩ | ⟨h, k⟩ <;> first | (rw [f52] at k; cases k; done) | (have q := bnF f35; have q2 := bnF f39; omega)).symm)⟩ (I.pick [0, 1])
     refine zb I 52 (f.res) (false) (f52) fun Al W I => a0j I J fun Al W U I => hJ _ _ _ _ _ ⟨U, true, rfl, rfl, rfl, c2, (by first | exact (dTr (.inr ⟨beq_iff_eq.1 f49, f52⟩)).symm | exact (dFa fun h => by rcases h with ⟨h, k⟩ | ⟨h, k⟩ <;> first | (rw [f52] at k; cases k; done) | (have q := bnF f35; have q2 := bnF f39; omega)).symm)⟩ (I.pick [0, 1])
   refine zb I 49 (cls == 5) (false) (f49) fun Al W I => a0j I J fun Al W U I => hJ _ _ _ _ _ ⟨U, false, rfl, rfl, rfl, c2, (by exact (dFa fun h => by rcases h with ⟨h, k⟩ | ⟨h, k⟩ <;> first | (have q := bnF f35; have q2 := bnF f39; omega) | (have q := bnF f49; omega)).symm)⟩ (I.pick [0, 1])
 rintro _ _ _ ⟨U1, b55, rfl, rfl, rfl, c2, h55⟩ Al W I
 refine zcut I (some 2000055) (fun fr bx gs => ∃ (U2 : Nat → Value) , fr = (.v (vI n) :: aC :: vu :: .p 0 0 :: sw U2 4 2 (.p 1 0 :: .v (vI 0) :: .v (vI (a0w a.xs)) :: su 2 (sw U2 11 6 (.v (.bool false) :: sw U2 18 8 (.v (.bool false) :: sw U2 27 4 (.v (.bool false) :: sw U2 32 23 (.v (.bool b55) :: sw U2 56 2 (vu :: sw U2 59 7 (vu :: sw U2 67 12 (vu :: sw U2 80 26 (vu :: sw U2 107 8 (su 2 (sw U2 117 5 (vu :: sw U2 123 2 (vu :: sw U2 126 10 (vu :: sw U2 137 4 (vu :: sw U2 142 5 [])))))))))))))))) : List SV) ∧ bx = [aB, aA] ∧ gs = [rdF .u32 a.p a.xs, tabF] ∧ (¬ (((cls = 3 ∨ cls = 4) ∧ f.inf = false) ∨ (cls = 5 ∧ f.res = false)))) ?_ ?_
 · intro J hJ Al W I
   rcases bTF b55 with rfl | rfl
   · have hE : c0b f cls a = 5 := by unfold c0b; rw [if_neg c1, if_neg (by omega), if_pos (oTr h55.symm)]
     have hN : (5 : Int) ≠ 0 := by decide
     exact zret I fun Al W I => c0i hE hN rfl I.below
   exact a0j I J fun Al W U I => hJ _ _ _ _ _ ⟨U, rfl, rfl, rfl, (oFa h55.symm)⟩ (I.pick [0, 1])
 rintro _ _ _ ⟨U2, rfl, rfl, rfl, c3⟩ Al W I
 rcases bTF (cls == 2) with f58 | f58
 · refine zb I 58 (cls == 2) (true) (f58) fun Al W I => ?_
   have c58 : cls = 2 := beq_iff_eq.1 f58
   rcases bTF (decide (a.e < (-20000))) with f61 | f61
   · refine zb I 61 (decide (a.e < (-20000))) (true) (f61) fun Al W I => ?_
     have hE : c0b f cls a = 3 := by unfold c0b; rw [if_neg c1, if_neg (by omega), if_neg c3, if_pos c58, if_pos (by (have := oTr f61; omega))]
     have hN : (3 : Int) ≠ 0 := by decide
     exact zret I fun Al W I => c0i hE hN rfl I.below
   refine zb I 61 (decide (a.e < (-20000))) (false) (f61) fun Al W I => ?_
   rcases bTF (decide (a.e > 20000)) with f65 | f65
   · refine zb I 65 (decide (a.e > 20000)) (true) (f65) fun Al W I => ?_
     have hE : c0b f cls a = 3 := by unfold c0b; rw [if_neg c1, if_neg (by omega), if_neg c3, if_pos c58, if_pos (by (have := oTr f65; omega))]
     have hN : (3 : Int) ≠ 0 := by decide
     exact zret I fun Al W I => c0i hE hN rfl I.below
   refine zb I 65 (decide (a.e > 20000)) (false) (f65) fun Al W I => ?_
   by_cases h70 : a.xs.length = 0
   · by_cases h77 : b0u d f.g = true
     · have c4 : -20000 ≤ a.e ∧ a.e ≤ 20000 := by have := oFa f61; have := oFa f65; omega
       have hb1 := hbd c2 c4
       refine zd [] I fun Al W I => zk [0, 1, 2] I fun I => zkb 3 I ((a.xs.length : Int) == 0) (true) (beq_iff_eq.2 (by omega)) fun I => zk [4, 5, 6, 7, 8, 9, 10, 11, 12] I fun I => ?_
       have hE : c0b f cls a = 4 := by unfold c0b; rw [if_neg c1, if_neg (by omega), if_neg c3, if_pos c58, if_neg (by omega), if_pos (by first | exact .inl h70 | exact .inr (by rw [hD]; simpa using h77))]
       have hN : (4 : Int) ≠ 0 := by decide
       exact zret I fun Al W I => c0i hE hN rfl I.below
     have c4 : -20000 ≤ a.e ∧ a.e ≤ 20000 := by have := oFa f61; have := oFa f65; omega
     have hb1 := hbd c2 c4
     refine zd [] I fun Al W I => zk [0, 1, 2] I fun I => zkb 3 I ((a.xs.length : Int) == 0) (true) (beq_iff_eq.2 (by omega)) fun I => zk [4, 5, 6, 7, 8, 9, 10, 11, 12] I fun I => ?_
     have hE : c0b f cls a = 4 := by unfold c0b; rw [if_neg c1, if_neg (by omega), if_neg c3, if_pos c58, if_neg (by omega), if_pos (by first | exact .inl h70 | exact .inr (by rw [hD]; simpa using h77))]
     have hN : (4 : Int) ≠ 0 := by decide
     exact zret I fun Al W I => c0i hE hN rfl I.below
   by_cases h77 : b0u d f.g = true
   · have c4 : -20000 ≤ a.e ∧ a.e ≤ 20000 := by have := oFa f61; have := oFa f65; omega
     have hb1 := hbd c2 c4
     refine zd [] I fun Al W I => zk [0, 1, 2] I fun I => zkb 3 I ((a.xs.length : Int) == 0) (false) (bFn (by omega)) fun I => zk [4, 5, 6, 8, 9] I fun I => zo 7 I fun I => zqo I (fun Al W I => (HR W c2 I.fa.1 c4 I.fa.2.1).out) fun Al W p74 c74 I => zo 10 I fun I => zqd I (fun Al W I => have hzW := I.bel.size; o0y d.neg p74 c74 d.e d.m f.g W I.fa.1.rd (by omega) (by omega) (c0m G.g)) (show (j0s ⟨d.neg, d.m, d.e⟩ f.g) = true from hkp.trans h77) fun Al W I => zk [11, 12] I fun I => ?_
     have hi := hige h77
     refine zd [] I fun Al W I => zk [0, 1, 2] I fun I => zo 3 I fun I => zqo I (fun Al W I => (HR W c2 I.fa.2.1 c4 I.fa.2.2.1).out) fun Al W p83 c83 I => zo 4 I fun I => zq I (fun Al W I => have hzW := I.bel.size; y0v f d p83 c83 W G I.fa.1.rd hb1.1 (by omega) h77 (hm0 c2 h70)) fun Al W I => zk [5, 6] I fun I => ?_
     have hE : c0b f cls a = 0 := by unfold c0b; rw [if_neg c1, if_neg (by omega), if_neg c3, if_pos c58, if_neg (by omega), if_neg (fun h => by rcases h with h | h <;> first | exact h70 h | (rw [hD, h77] at h; cases h; done))]
     exact zret I (v := fun Al => .tuple #[.string (a0e (f.strP (f.numP d))), vI 0]) fun Al W I => f0j hE (by rw [show cls.toNat = 2 by omega, e2]) rfl I.below
   have c4 : -20000 ≤ a.e ∧ a.e ≤ 20000 := by have := oFa f61; have := oFa f65; omega
   have hb1 := hbd c2 c4
   refine zd [] I fun Al W I => zk [0, 1, 2] I fun I => zkb 3 I ((a.xs.length : Int) == 0) (false) (bFn (by omega)) fun I => zk [4, 5, 6, 8, 9] I fun I => zo 7 I fun I => zqo I (fun Al W I => (HR W c2 I.fa.1 c4 I.fa.2.1).out) fun Al W p74 c74 I => zo 10 I fun I => zqd I (fun Al W I => have hzW := I.bel.size; o0y d.neg p74 c74 d.e d.m f.g W I.fa.1.rd (by omega) (by omega) (c0m G.g)) (show (j0s ⟨d.neg, d.m, d.e⟩ f.g) = false from hkp.trans (by simpa using h77)) fun Al W I => zk [11, 12] I fun I => ?_
   have hE : c0b f cls a = 4 := by unfold c0b; rw [if_neg c1, if_neg (by omega), if_neg c3, if_pos c58, if_neg (by omega), if_pos (by first | exact .inl h70 | exact .inr (by rw [hD]; simpa using h77))]
   have hN : (4 : Int) ≠ 0 := by decide
   exact zret I fun Al W I => c0i hE hN rfl I.below
 refine zb I 58 (cls == 2) (false) (f58) fun Al W I => zcut I (some 3000017) (fun fr bx gs => ∃ (U3 : Nat → Value) (b106 : Bool), fr = (.v (vI n) :: aC :: vu :: .p 0 0 :: sw U2 4 2 (.p 1 0 :: .v (vI 0) :: .v (vI (a0w a.xs)) :: su 2 (sw U3 11 6 (.v (.bool false) :: sw U3 18 8 (.v (.bool false) :: sw U3 27 4 (.v (.bool false) :: sw U3 32 23 (.v (.bool b55) :: sw U3 56 2 (.v (.bool false) :: sw U3 59 7 (vu :: sw U3 67 12 (vu :: sw U3 80 26 (.v (.bool b106) :: sw U3 107 8 (su 2 (sw U3 117 5 (vu :: sw U3 123 2 (vu :: sw U3 126 10 (vu :: sw U3 137 4 (vu :: sw U3 142 5 [])))))))))))))))) : List SV) ∧ bx = [aB, aA] ∧ gs = [rdF .u32 a.p a.xs, tabF] ∧ (cls ≠ 2) ∧ (b106 = decide (0 < a.xs.length ∨ a.e ≠ 0 ∨ (a.g = true ∧ (4 ≤ cls ∨ f.res = true))))) ?_ ?_
 · intro J hJ Al W I
   have c58 : cls ≠ 2 := bnF f58
   rcases bTF (decide ((a.xs.length : Int) > 0)) with f88 | f88
   · refine zb I 88 (decide ((a.xs.length : Int) > 0)) (true) (f88) fun Al W I => a0j I J fun Al W U I => hJ _ _ _ _ _ ⟨U, true, rfl, rfl, rfl, c58, (by exact (dTr (.inl (by have := oTr f88; omega))).symm)⟩ (I.pick [0, 1])
   refine zb I 88 (decide ((a.xs.length : Int) > 0)) (false) (f88) fun Al W I => ?_
   rcases bTF (a.e != 0) with f92 | f92
   · refine zb I 92 (a.e != 0) (true) (f92) fun Al W I => a0j I J fun Al W U I => hJ _ _ _ _ _ ⟨U, true, rfl, rfl, rfl, c58, (by first | exact (dTr (.inr (.inl (bne_iff_ne.1 f92)))).symm | exact (dFa fun h => by rcases h with h | h | ⟨h, k⟩ <;> first | (have := oFa f88; omega) | (rw [show (a.e != 0) = true from bne_iff_ne.2 h] at f92; cases f92; done)).symm)⟩ (I.pick [0, 1])
   refine zb I 92 (a.e != 0) (false) (f92) fun Al W I => ?_
   rcases bTF (a.g) with f96 | f96
   · refine zb I 96 (a.g) (true) (f96) fun Al W I => ?_
     rcases bTF (decide (cls ≥ 4)) with f100 | f100
     · refine zb I 100 (decide (cls ≥ 4)) (true) (f100) fun Al W I => a0j I J fun Al W U I => hJ _ _ _ _ _ ⟨U, true, rfl, rfl, rfl, c58, (by first | exact (dTr (.inr (.inr ⟨f96, .inl (oTr f100)⟩))).symm | exact (dFa fun h => by rcases h with h | h | ⟨h, k⟩ <;> first | (have := oFa f88; omega) | (rw [show (a.e != 0) = true from bne_iff_ne.2 h] at f92; cases f92; done) | (rw [f96] at h; cases h; done)).symm)⟩ (I.pick [0, 1])
     refine zb I 100 (decide (cls ≥ 4)) (false) (f100) fun Al W I => ?_
     rcases bTF (f.res) with f103 | f103
     · refine zb I 103 (f.res) (true) (f103) fun Al W I => a0j I J fun Al W U I => hJ _ _ _ _ _ ⟨U, true, rfl, rfl, rfl, c58, (by first | exact (dTr (.inr (.inr ⟨f96, .inr f103⟩))).symm | exact (dFa fun h => by rcases h with h | h | ⟨h, k⟩ <;> first | (have := oFa f88; omega) | (rw [show (a.e != 0) = true from bne_iff_ne.2 h] at f92; cases f92; done) | (rw [f96] at h; cases h; done) | (rcases k with k | k <;> first | (have := oFa f100; omega) | (rw [f103] at k; cases k; done))).symm)⟩ (I.pick [0, 1])
     refine zb I 103 (f.res) (false) (f103) fun Al W I => a0j I J fun Al W U I => hJ _ _ _ _ _ ⟨U, false, rfl, rfl, rfl, c58, (by first | exact (dTr (.inr (.inr ⟨f96, .inr f103⟩))).symm | exact (dFa fun h => by rcases h with h | h | ⟨h, k⟩ <;> first | (have := oFa f88; omega) | (rw [show (a.e != 0) = true from bne_iff_ne.2 h] at f92; cases f92; done) | (rw [f96] at h; cases h; done) | (rcases k with k | k <;> first | (have := oFa f100; omega) | (rw [f103] at k; cases k; done))).symm)⟩ (I.pick [0, 1])
   refine zb I 96 (a.g) (false) (f96) fun Al W I => a0j I J fun Al W U I => hJ _ _ _ _ _ ⟨U, false, rfl, rfl, rfl, c58, (by exact (dFa fun h => by rcases h with h | h | ⟨h, k⟩ <;> first | (have := oFa f88; omega) | (rw [show (a.e != 0) = true from bne_iff_ne.2 h] at f92; cases f92; done) | (rw [f96] at h; cases h; done)).symm)⟩ (I.pick [0, 1])
 rintro _ _ _ ⟨U3, b106, rfl, rfl, rfl, c58, h106⟩ Al W I
 refine zcut I (some 2000106) (fun fr bx gs => ∃ (U4 : Nat → Value) , fr = (.v (vI n) :: aC :: vu :: .p 0 0 :: sw U4 4 2 (.p 1 0 :: .v (vI 0) :: .v (vI (a0w a.xs)) :: su 2 (sw U4 11 6 (.v (.bool false) :: sw U4 18 8 (.v (.bool false) :: sw U4 27 4 (.v (.bool false) :: sw U4 32 23 (.v (.bool b55) :: sw U4 56 2 (.v (.bool false) :: sw U4 59 7 (vu :: sw U4 67 12 (vu :: sw U4 80 26 (.v (.bool b106) :: sw U4 107 8 (su 2 (sw U4 117 5 (vu :: sw U4 123 2 (vu :: sw U4 126 10 (vu :: sw U4 137 4 (vu :: sw U4 142 5 [])))))))))))))))) : List SV) ∧ bx = [aB, aA] ∧ gs = [rdF .u32 a.p a.xs, tabF] ∧ (¬ (0 < a.xs.length ∨ a.e ≠ 0 ∨ (a.g = true ∧ (4 ≤ cls ∨ f.res = true))))) ?_ ?_
 · intro J hJ Al W I
   rcases bTF b106 with rfl | rfl
   · have hE : c0b f cls a = 4 := by unfold c0b; rw [if_neg c1, if_neg (by omega), if_neg c3, if_neg c58, if_pos (oTr h106.symm)]
     have hN : (4 : Int) ≠ 0 := by decide
     exact zret I fun Al W I => c0i hE hN rfl I.below
   exact a0j I J fun Al W U I => hJ _ _ _ _ _ ⟨U, rfl, rfl, rfl, (oFa h106.symm)⟩ (I.pick [0, 1])
 rintro _ _ _ ⟨U4, rfl, rfl, rfl, c4⟩ Al W I
 have hE : c0b f cls a = 0 := by unfold c0b; rw [if_neg c1, if_neg (by omega), if_neg c3, if_neg c58, if_neg c4]
 refine zbin I 109 _ (fun _ _ _ _ _ => m0q .i64 (1) .i64 (f.E : Int) ((P : Int)) (by omega) ((HSH.out))) fun Al W I => zi I 110 .i64 ((P : Int) - 1) (((P - 1 : Nat) : Int)) ((by rw [show ((P : Int) - 1) = ((P - 1 : Nat) : Int) by omega]; exact iwo)) fun Al W I => ?_
 rcases bTF (cls == 3) with f35 | f35
 · refine zb I 117 (cls == 3) (true) (f35) fun Al W I => ?_
   have f43 : f.inf = true := by cases hq : f.inf with | true => rfl | false => exact absurd (.inl ⟨.inl (beq_iff_eq.1 f35), hq⟩) c3
   rcases bTF (f.hid) with f121 | f121
   · refine zb I 121 (f.hid) (true) (f121) fun Al W I => zg I (fun Al W I => have hzW := I.bel.size; (hJ0 W a.g ((P - 1 : Nat) : Int) (P - 1) rfl (by omega)).out) fun Al V Iv _ hB _ kz => ?_
     rintro _ W ⟨rfl, hb⟩
     have hS : a0e (f.strP (f.encP cls.toNat a.g d)) = a0e (f.str a.g (P - 1) 0) := by rw [show cls.toNat = 3 by have := beq_iff_eq.1 f35; omega, e3, if_neg (by rw [(hhid f43).1 f121]; simp)]; rfl
     refine ⟨_, rfl, kz _ _ hb fun I => ?_⟩
     exact zret I fun Al W I => f0j hE hS rfl I.below
   refine zb I 121 (f.hid) (false) (f121) fun Al W I => zqo I (fun Al W I => have hzW := I.bel.size; h0l 63 (2 ^ 63) 63 W (by omega) rfl rfl) fun Al W p123 c123 I => zg I (fun Al W I => have hzW := I.bel.size; (hJ W a.g ((P - 1 : Nat) : Int) (P - 1) (2 ^ 63) rfl p123 c123 I.fa.1.rd (by omega) (by rw [hx64 (hext f43 f121)]; omega)).out) fun Al V Iv _ hB _ kz => ?_
   rintro _ W ⟨rfl, hb⟩
   have hS : a0e (f.strP (f.encP cls.toNat a.g d)) = a0e (f.str a.g (P - 1) (2 ^ 63)) := by rw [show cls.toNat = 3 by have := beq_iff_eq.1 f35; omega, e3, if_pos (hext f43 f121)]; rfl
   refine ⟨_, rfl, kz _ _ hb fun I => ?_⟩
   exact zret I fun Al W I => f0j hE hS rfl I.below
 refine zb I 117 (cls == 3) (false) (f35) fun Al W I => ?_
 rcases bTF (cls == 4) with f39 | f39
 · refine zb I 126 (cls == 4) (true) (f39) fun Al W I => ?_
   have f43 : f.inf = true := by cases hq : f.inf with | true => rfl | false => exact absurd (.inl ⟨.inr (beq_iff_eq.1 f39), hq⟩) c3
   refine zi I 130 .i64 ((f.F : Int) - 1) (((f.F - 1 : Nat) : Int)) ((by rw [show ((f.F : Int) - 1) = ((f.F - 1 : Nat) : Int) by omega]; exact iwo)) fun Al W I => zqo I (fun Al W I => have hzW := I.bel.size; h0l (f.F - 1) (2 ^ (f.F - 1)) _ W (by omega) rfl rfl) fun Al W p131 c131 I => ?_
   rcases bTF (f.hid) with f135 | f135
   · refine zb I 135 (f.hid) (true) (f135) fun Al W I => zg I (fun Al W I => have hzW := I.bel.size; (hJ W a.g ((P - 1 : Nat) : Int) (P - 1) (2 ^ (f.F - 1)) rfl p131 c131 I.fa.1.rd (by omega) hF1).out) fun Al V Iv _ hB _ kz => ?_
     rintro _ W ⟨rfl, hb⟩
     have hS : a0e (f.strP (f.encP cls.toNat a.g d)) = a0e (f.str a.g (P - 1) (2 ^ (f.F - 1))) := by rw [show cls.toNat = 4 by have := beq_iff_eq.1 f39; omega, e4, if_neg (by rw [(hhid f43).1 f135]; simp)]; rfl
     refine ⟨_, rfl, kz _ _ hb fun I => ?_⟩
     exact zret I fun Al W I => f0j hE hS rfl I.below
   refine zb I 135 (f.hid) (false) (f135) fun Al W I => zqo I (fun Al W I => have hzW := I.bel.size; h0l 63 (2 ^ 63) 63 W (by omega) rfl rfl) fun Al W p137 c137 I => zqo I (fun Al W I => have hzW := I.bel.size; h0l 62 (2 ^ 62) 62 W (by omega) rfl rfl) fun Al W p138 c138 I => zqo I (fun Al W I => have hzW := I.bel.size; sadd p137 p138 _ _ c137 c138 (2 ^ 63) (2 ^ 62) (2 ^ 63 + 2 ^ 62) W I.fa.2.1.rd I.fa.1.rd rfl rfl (by omega) (by omega) rfl) fun Al W p139 c139 I => zg I (fun Al W I => have hzW := I.bel.size; (hJ W a.g ((P - 1 : Nat) : Int) (P - 1) (2 ^ 63 + 2 ^ 62) rfl p139 c139 I.fa.1.rd (by omega) (by rw [hx64 (hext f43 f135)]; omega)).out) fun Al V Iv _ hB _ kz => ?_
   rintro _ W ⟨rfl, hb⟩
   have hS : a0e (f.strP (f.encP cls.toNat a.g d)) = a0e (f.str a.g (P - 1) (2 ^ 63 + 2 ^ 62)) := by rw [show cls.toNat = 4 by have := beq_iff_eq.1 f39; omega, e4, if_pos (hext f43 f135)]; rfl
   refine ⟨_, rfl, kz _ _ hb fun I => ?_⟩
   exact zret I fun Al W I => f0j hE hS rfl I.below
 refine zb I 126 (cls == 4) (false) (f39) fun Al W I => ?_
 rcases bTF (cls == 5) with f49 | f49
 · refine zb I 142 (cls == 5) (true) (f49) fun Al W I => zg I (fun Al W I => (hJ0 W true 0 0 rfl h0T).out) fun Al V Iv _ hB _ kz => ?_
   rintro _ W ⟨rfl, hb⟩
   have hS : a0e (f.strP (f.encP cls.toNat a.g d)) = a0e (f.str true 0 0) := by rw [show cls.toNat = 5 by have := beq_iff_eq.1 f49; omega, e5]; rfl
   refine ⟨_, rfl, kz _ _ hb fun I => ?_⟩
   exact zret I fun Al W I => f0j hE hS rfl I.below
 refine zb I 142 (cls == 5) (false) (f49) fun Al W I => zg I (fun Al W I => (hJ0 W a.g 0 0 rfl h0T).out) fun Al V Iv _ hB _ kz => ?_
 rintro _ W ⟨rfl, hb⟩
 have hS : a0e (f.strP (f.encP cls.toNat a.g d)) = a0e (f.str a.g 0 0) := by rw [show cls.toNat = 1 by have := bnF f49; have := bnF f35; have := bnF f39; omega, e1]; rfl
 refine ⟨_, rfl, kz _ _ hb fun I => ?_⟩
 exact zret I fun Al W I => f0j hE hS rfl I.below
end Go.Proofs.YtgbbhlginbmghaaGreatDoor
namespace Go.Slip
def y0w (N : Nat) (D : List Nat) (i d A : Nat) : Prop := (∀ x ∈ D, x < 10) ∧ d < 10 ^ (4 - i) ∧ N = val 10 D + 10 ^ D.length * (d + 10 ^ (4 - i) * A)
def n0k (N : Nat) (D : List Nat) (A : Nat) : Prop := (∀ x ∈ D, x < 10) ∧ N = val 10 D + 10 ^ D.length * A
theorem n0k.start (N : Nat) : n0k N [] N := ⟨by simp, by simp⟩
theorem n0k.enter {N : Nat} {D : List Nat} {A : Nat} (h : n0k N D A) : y0w N D 0 (A % 10000) (A / 10000) := by
 refine ⟨h.1, Nat.mod_lt _ (by omega), ?_⟩
 rw [h.2]
 congr 2
 have := Nat.mod_add_div A 10000
 show A = A % 10000 + 10000 * (A / 10000)
 omega
theorem y0w.step {N : Nat} {D : List Nat} {i d A : Nat} (h : y0w N D i d A) (hi : i < 4) : y0w N (D ++ [d % 10]) (i + 1) (d / 10) A := by
 obtain ⟨h1, h2, h3⟩ := h
 have e : 4 - i = 4 - (i + 1) + 1 := by omega
 rw [e, Nat.pow_succ] at h2 h3
 refine ⟨fun x hx => ?_, by omega, ?_⟩
 · rcases List.mem_append.1 hx with hx | hx
   · exact h1 x hx
   · simp at hx; omega
 · rw [h3, e0b, List.length_append, List.length_singleton, Nat.pow_succ]
   have := Nat.mod_add_div d 10
   generalize d % 10 = s at *
   generalize d / 10 = q at *
   subst this
   grind
theorem y0w.leave {N : Nat} {D : List Nat} {d A : Nat} (h : y0w N D 4 d A) : n0k N D A := by
 obtain ⟨h1, h2, h3⟩ := h
 have hd : d = 0 := by simpa using h2
 subst hd
 exact ⟨h1, by rw [h3]; simp⟩
theorem n0k.size {N : Nat} {D : List Nat} {A : Nat} (h : n0k N D A) (hA : 0 < A) : D.length ≤ 16 * (dig B16 N).length := by
 have h1 : 10 ^ D.length ≤ N := by
  rw [h.2]
  have := Nat.le_mul_of_pos_right (10 ^ D.length) hA
  omega
 have h2 := (a0h k0n N _).1 (Nat.le_refl _)
 have h3 : B16 ^ (dig B16 N).length = 2 ^ (16 * (dig B16 N).length) := by rw [Nat.pow_mul]; congr 1
 have h4 : 2 ^ D.length ≤ 10 ^ D.length := Nat.pow_le_pow_left (by omega) _
 have h5 : 2 ^ D.length < 2 ^ (16 * (dig B16 N).length) := by rw [← h3]; omega
 exact Nat.le_of_lt ((Nat.pow_lt_pow_iff_right (by omega)).1 h5)
end Go.Slip
namespace Go.Proofs.YtgbbhlginbmghaaGreatDoor
open Go.RowKit Go.Slip
theorem _root_.Go.Slip.SmallRel.skip {B : Nat} {L xs : List Nat} {d k r : Nat} (h : SmallRel B L xs d (k + 1) r) (hk : k < xs.length) (hL : k < L.length) (hx : dg xs k < B) (hz : dg L k = 0) (hlt : r * B + dg xs k < d) : SmallRel B L xs d k (r * B + dg xs k) := by
 have h1 := (h.step hk hL hx).1
 rw [Nat.div_eq_of_lt hlt, Nat.mod_eq_of_lt hlt, f1f L k hz] at h1
 exact h1
instance decDv : DecidableEq Dv := fun a b => decidable_of_iff (a.neg = b.neg ∧ a.m = b.m ∧ a.e = b.e) ⟨fun h => Dv.ext' h.1 h.2.1 h.2.2, fun h => by subst h; exact ⟨rfl, rfl, rfl⟩⟩
structure InF (w : World) (base : Nat) (a : Rw) : Prop where
 rd : Rd w .i64 a.p (dig B16 a.m)
 cap : (dig B16 a.m).length ≤ a.c
 len : (dig B16 a.m).length ≤ 1000000
 lo : -1000000 ≤ a.e
 hi : a.e ≤ 1000000
 at_ : 0 < (dig B16 a.m).length → base ≤ blk a.p
theorem InF.past {w w' : World} {base : Nat} {a : Rw} (h : InF w base a) (hb : Below w.heap.size w w') : InF w' base a := ⟨h.rd.past hb, h.cap, h.len, h.lo, h.hi, h.at_⟩
theorem InF.drew {w : World} {base : Nat} {a : Rw} (h : InF w base a) : InF w.drew base a := ⟨h.rd.drew, h.cap, h.len, h.lo, h.hi, h.at_⟩
theorem InF.mono {w : World} {base base' : Nat} {a : Rw} (h : InF w base a) (hb : base' ≤ base) : InF w base' a := ⟨h.rd, h.cap, h.len, h.lo, h.hi, fun k => Nat.le_trans hb (h.at_ k)⟩
theorem InF.only {w w' : World} {base k : Nat} {a : Rw} (h : InF w base a) (hb : Only k w w') (hne : 0 < (dig B16 a.m).length → blk a.p ≠ k) : InF w' base a := ⟨h.rd.only hb hne, h.cap, h.len, h.lo, h.hi, h.at_⟩
theorem InF.lt {w : World} {base : Nat} {a : Rw} (h : InF w base a) : 0 < (dig B16 a.m).length → blk a.p < w.heap.size := fun k => h.rd.lt k
theorem e0x (s e f d l g k : Int) (w : World) : Calls Tryz.prog 71 #[.int .i64 s, .int .i64 e, .int .i64 f, .int .i64 d, .int .i64 l, .int .i64 g, .int .i64 k] w
 fun en w' => en = .returned (.agg #[.int .i64 s, .int .i64 e, .int .i64 f, .int .i64 2, .int .i64 d, .int .i64 l, .int .i64 g, .bool (k == 1), .int .i64 k]) ∧ Below w.heap.size w w' := by
 have I := Inv.start w [] True.intro
 refine a0c [.v (.int .i64 s), .v (.int .i64 e), .v (.int .i64 f), .v (.int .i64 d), .v (.int .i64 l), .v (.int .i64 g), .v (.int .i64 k)] I Tryz.func71 ?_
 exact zrb I
theorem t0d (n : Int) (hn : IsFm n) (w : World) : Calls Tryz.prog 34 #[.int .i64 n] w
 fun e w' => e = .returned (.tuple #[.agg #[.int .i64 (((fmt n).size : Nat) : Int), .int .i64 (((fmt n).E : Nat) : Int), .int .i64 (((fmt n).F : Nat) : Int), .int .i64 (fmt n).g.rad, .int .i64 (fmt n).g.digs, .int .i64 (fmt n).g.lo, .int .i64 (fmt n).g.hi, .bool (fmt n).g.grad, .int .i64 (((fmt n).fam : Nat) : Int)], .bool true]) ∧ Below w.heap.size w w' := by
 rcases q0g hn with rfl | rfl | rfl | rfl | rfl | rfl | rfl | rfl
 · have I := Inv.start w [] True.intro
   refine a0c [.v (.int .i64 1)] I Tryz.func34 ?_
   refine zq I (fun Al W I => e0x 4 8 23 24 (-149) 104 1 W) fun Al W I => zret I (v := fun Al => .tuple #[.agg #[vI 4, vI 8, vI 23, vI 2, vI 24, vI (-149), vI 104, .bool true, vI 1], .bool true]) fun Al W I => ⟨by kernel_rfl, I.below⟩
 · have I := Inv.start w [] True.intro
   refine a0c [.v (.int .i64 2)] I Tryz.func34 ?_
   refine zq I (fun Al W I => e0x 8 11 52 53 (-1074) 971 1 W) fun Al W I => zret I (v := fun Al => .tuple #[.agg #[vI 8, vI 11, vI 52, vI 2, vI 53, vI (-1074), vI 971, .bool true, vI 1], .bool true]) fun Al W I => ⟨by kernel_rfl, I.below⟩
 · have I := Inv.start w [] True.intro
   refine a0c [.v (.int .i64 3)] I Tryz.func34 ?_
   refine zq I (fun Al W I => e0x 10 15 64 64 (-16445) 16320 1 W) fun Al W I => zret I (v := fun Al => .tuple #[.agg #[vI 10, vI 15, vI 64, vI 2, vI 64, vI (-16445), vI 16320, .bool true, vI 1], .bool true]) fun Al W I => ⟨by kernel_rfl, I.below⟩
 · have I := Inv.start w [] True.intro
   refine a0c [.v (.int .i64 4)] I Tryz.func34 ?_
   exact zret I (v := fun Al => .tuple #[.agg #[vI 4, vI 7, vI 24, vI 16, vI 6, vI (-70), vI 57, .bool false, vI 2], .bool true]) fun Al W I => ⟨by kernel_rfl, I.below⟩
 · have I := Inv.start w [] True.intro
   refine a0c [.v (.int .i64 5)] I Tryz.func34 ?_
   exact zret I (v := fun Al => .tuple #[.agg #[vI 8, vI 7, vI 56, vI 16, vI 14, vI (-78), vI 49, .bool false, vI 2], .bool true]) fun Al W I => ⟨by kernel_rfl, I.below⟩
 · have I := Inv.start w [] True.intro
   refine a0c [.v (.int .i64 6)] I Tryz.func34 ?_
   refine zq I (fun Al W I => e0x 4 8 23 24 (-151) 103 3 W) fun Al W I => zret I (v := fun Al => .tuple #[.agg #[vI 4, vI 8, vI 23, vI 2, vI 24, vI (-151), vI 103, .bool false, vI 3], .bool true]) fun Al W I => ⟨by kernel_rfl, I.below⟩
 · have I := Inv.start w [] True.intro
   refine a0c [.v (.int .i64 7)] I Tryz.func34 ?_
   refine zq I (fun Al W I => e0x 8 8 55 56 (-183) 71 3 W) fun Al W I => zret I (v := fun Al => .tuple #[.agg #[vI 8, vI 8, vI 55, vI 2, vI 56, vI (-183), vI 71, .bool false, vI 3], .bool true]) fun Al W I => ⟨by kernel_rfl, I.below⟩
 · have I := Inv.start w [] True.intro
   refine a0c [.v (.int .i64 8)] I Tryz.func34 ?_
   refine zq I (fun Al W I => e0x 8 11 52 53 (-1076) 970 3 W) fun Al W I => zret I (v := fun Al => .tuple #[.agg #[vI 8, vI 11, vI 52, vI 2, vI 53, vI (-1076), vI 970, .bool false, vI 3], .bool true]) fun Al W I => ⟨by kernel_rfl, I.below⟩
theorem q0w (n : Int) (hn : ¬ IsFm n) (w : World) : Calls Tryz.prog 34 #[.int .i64 n] w
 fun e w' => e = .returned (.tuple #[.agg #[.int .i64 (((fmt n).size : Nat) : Int), .int .i64 (((fmt n).E : Nat) : Int), .int .i64 (((fmt n).F : Nat) : Int), .int .i64 (fmt n).g.rad, .int .i64 (fmt n).g.digs, .int .i64 (fmt n).g.lo, .int .i64 (fmt n).g.hi, .bool (fmt n).g.grad, .int .i64 (((fmt n).fam : Nat) : Int)], .bool false]) ∧ Below w.heap.size w w' := by
 rw [q0v hn]
 unfold IsFm at hn
 have I := Inv.start w [] True.intro
 refine a0c [.v (.int .i64 n)] I Tryz.func34 ?_
 refine zb I 7 (n == 1) (false) (bFn (by omega)) fun Al W I => zb I 11 (n == 2) (false) (bFn (by omega)) fun Al W I => zb I 15 (n == 3) (false) (bFn (by omega)) fun Al W I => zb I 19 (n == 4) (false) (bFn (by omega)) fun Al W I => zb I 23 (n == 5) (false) (bFn (by omega)) fun Al W I => zb I 27 (n == 6) (false) (bFn (by omega)) fun Al W I => zb I 31 (n == 7) (false) (bFn (by omega)) fun Al W I => zb I 35 (n == 8) (false) (bFn (by omega)) fun Al W I => zret I (v := fun Al => .tuple #[.agg #[vI 0, vI 0, vI 0, vI 0, vI 0, vI 0, vI 0, .bool false, vI 0], .bool false]) fun Al W I => ⟨by kernel_rfl, I.below⟩
theorem q0x (n : Int) (w : World) : Calls Tryz.prog 34 #[.int .i64 n] w
 fun e w' => e = .returned (.tuple #[.agg #[.int .i64 (((fmt n).size : Nat) : Int), .int .i64 (((fmt n).E : Nat) : Int), .int .i64 (((fmt n).F : Nat) : Int), .int .i64 (fmt n).g.rad, .int .i64 (fmt n).g.digs, .int .i64 (fmt n).g.lo, .int .i64 (fmt n).g.hi, .bool (fmt n).g.grad, .int .i64 (((fmt n).fam : Nat) : Int)], .bool (decide (IsFm n))]) ∧ Below w.heap.size w w' := by
 by_cases hn : IsFm n
 · rw [decide_eq_true hn]; exact t0d n hn w
 · rw [decide_eq_false hn]; exact q0w n hn w
end Go.Proofs.YtgbbhlginbmghaaGreatDoor
namespace Go.Slip
theorem d1o {neg : Bool} {num den : Nat} {e : Int} {g : Gd} {way : Int} (hd : 0 < den) (G : k0u g) : (dig B32 (a0u neg num den e g way).d).length ≤ 16 := by
 unfold a0u
 by_cases h0 : num = 0
 · rw [if_pos h0]; simp [a0d]
 · rw [if_neg h0]
   have hK := q0d (num := num) (by omega) hd e (w := wid g) (D := g.digs.toNat) (b0m g).1 (by have := G.d1; omega)
   have h1 := f1y (neg := neg) (way := way) hd G hK
   have h2 : wid g * g.digs.toNat ≤ 480 := by
    have := Nat.mul_le_mul (b0m g).2 (show g.digs.toNat ≤ 120 by have := G.d2; omega)
    omega
   exact Nat.le_trans (a0k a0a (Nat.le_of_lt h1)) (g0k h2)
theorem p1p {neg : Bool} {num den : Nat} {e : Int} {g : Gd} {way : Int} (_ : 0 < den) (G : k0u g) (hok : okP (a0u neg num den e g way) g = true) : -17000 ≤ (a0u neg num den e g way).pow ∧ (a0u neg num den e g way).pow ≤ 17000 := by
 unfold a0u at *
 by_cases h0 : num = 0
 · rw [if_pos h0]; simp
 · rw [if_neg h0] at *
   generalize theK num den e (wid g) g.digs.toNat = K at *
   have hover : powP neg num den e (wid g) g.digs.toNat way (powK g K) ≤ g.hi := by
    unfold okP at hok
    have : (fitK neg num den e g way K).over = decide (g.hi < powP neg num den e (wid g) g.digs.toNat way (powK g K)) := rfl
    rw [this] at hok
    simp only [Bool.and_eq_true, Bool.not_eq_true', decide_eq_false_iff_not] at hok
    omega
   have hlow : g.lo ≤ powK g K := by
    unfold okP at hok
    have : (fitK neg num den e g way K).under = decide (K < g.lo) := rfl
    rw [this] at hok
    simp only [Bool.and_eq_true, Bool.or_eq_true, Bool.not_eq_true', decide_eq_false_iff_not] at hok
    unfold powK
    rcases hok.2 with h | h
    · rw [if_neg (fun k => h k.1)]; omega
    · by_cases hu : K < g.lo
      · rw [if_pos ⟨hu, h⟩]; omega
      · rw [if_neg (fun k => hu k.1)]; omega
   have h1 := G.l1
   have h2 := G.h2
   have hp : (fitK neg num den e g way K).pow = if digP neg num den e (wid g) g.digs.toNat way (powK g K) = 0 then 0 else powP neg num den e (wid g) g.digs.toNat way (powK g K) := rfl
   rw [hp]
   have h3 : powK g K ≤ powP neg num den e (wid g) g.digs.toNat way (powK g K) := by unfold powP; split <;> omega
   split
   · omega
   · omega
end Go.Slip
namespace Go.Slip
open Go.RowKit
def t0e : List (Nat × SV) → Cfg → Cfg
 | [], c => c
 | (i, y) :: l, c => t0e l (i0d i y c)
section
variable {P : Program} {Q : Exit → Act → World → Prop} {E : List Nat} {w0 : World} {A : List Nat} {fs : List PF} {W : World} {c c' : Cfg}
theorem l0o (_ : Inv E w0 A c.bx fs W) (l : List (Nat × SV)) (h1 : ∀ A W, Inv E w0 A (nrm (t0e l c)).bx fs W → G P Q A (nrm (t0e l c)) W)
 (h2 : (∀ A W, Inv E w0 A (nrm (t0e l c)).bx fs W → G P Q A (nrm (t0e l c)) W) → G P Q A c W) : G P Q A c W := h2 h1
theorem zuse (K : ∀ A W, Inv E w0 A c'.bx fs W → G P Q A c' W) (I : Inv E w0 A c.bx fs W) (he : c = c' := by kernel_rfl) : G P Q A c W := by
 subst he
 exact K _ _ I
end
end Go.Slip
namespace Go.Slip
open Go.RowKit
def k1g (i : Nat) (c : Cfg) (A : List Nat) : Option VO :=
 match c.rg with
 | .dr ops _ _ (_ + 1) listed => match ops[i]? with
  | some o => match Region.noSelect ops && Region.free .any ops listed i && (Region.ready .any ops listed).contains i && wnt ops c.fr o with
   | true => match o.op with
    | .indexAddr t x j => some (.ix t (evr A c.fr x) (evr A c.fr j))
    | _ => none
   | false => none
  | none => none
 | _ => none
section
variable {P : Program} {Q : Exit → Act → World → Prop} {E : List Nat} {w0 : World} {A : List Nat} {fs : List PF} {W : World} {c : Cfg}
theorem zkx (i : Nat) (I : Inv E w0 A c.bx fs W) {vo : VO} (v : Value) (hx : ∀ W, vo.sem.run P W = .ok v W) (h : Inv E w0 A (i0d i (.v v) c).bx fs W → G P Q A (i0d i (.v v) c) W)
 (hv : k1g i c A = some vo := by kernel_rfl) (hm : dk1 c.rg c.bx = dk2 c.rg := by kernel_rfl) (hQ : f0p Q := by exact d0r) : G P Q A c W := by
 refine ⟨?_⟩
 have h := (h (by rw [p0z]; exact I)).out
 obtain ⟨cf, cb, rg, ks⟩ := c
 cases rg with
 | off => cases hv
 | pl => cases hv
 | one => cases hv
 | ret => cases hv
 | dr ops A0 m fuel listed =>
  cases fuel with
  | zero => cases hv
  | succ fuel =>
   unfold k1g at hv
   unfold i0d at h
   simp only at hv h
   intro pre
   split at hv
   · rename_i o hi
     rw [hi] at h
     split at hv
     · rename_i h1
       simp only [Bool.and_eq_true] at h1
       obtain ⟨⟨⟨h1, h2⟩, h3⟩, hw⟩ := h1
       split at hv
       · rename_i t x j hop
         simp only [Option.some.injEq] at hv
         subst hv
         have hS : SB A0 m W := x0x I pre hm
         have h : WpH P ops (post P Q ks) (SB A0 m) fuel (listed.setIfInBounds i true) (act A (putO cf o.dst (.v v))) W := h pre
         rw [← b0t] at h
         refine m0i i o.dst v _ hi rfl rfl h1 h2 h3 (fun c a w => d0z (P := P) hQ ks c a o.dst v w) (.inl ⟨by rw [d0h]; exact hw, fun w' _ => ?_⟩) hS h
         rw [b0f]
         unfold execOp
         have := hx w'
         unfold VO.sem at this
         simp only [hop, Sem.run_bind, this, Result.andThen_ok, Sem.run_pure]
       · cases hv
     · cases hv
   · cases hv
end
end Go.Slip
namespace Go.Slip
def k0d (K e f k : Nat) : Prop := e + f * k = K
theorem k0d.bd {K e f k : Nat} (h : k0d K e f k) (hk : 0 < k) : e + f ≤ K := by
 unfold k0d at h
 have := Nat.le_mul_of_pos_right f hk
 omega
theorem k0d.two {K e f k : Nat} (h : k0d K e f k) (hk : 1 < k) : f + f ≤ K := by
 unfold k0d at h
 have := Nat.mul_le_mul_left f (show 2 ≤ k from hk)
 omega
theorem k0d.step {K e f k : Nat} (h : k0d K e f k) : k0d K (e + f * (k % 2)) (f + f) (k / 2) := by
 unfold k0d at h ⊢
 have h1 := Nat.div_add_mod k 2
 have h2 : f * k = f * (2 * (k / 2)) + f * (k % 2) := by rw [← Nat.mul_add, h1]
 have h3 : (f + f) * (k / 2) = f * (2 * (k / 2)) := by grind
 omega
theorem k0e {B a K e : Nat} (hB : 2 ≤ B) (ha : a < B) (h : e ≤ K) (hK : 1 ≤ K) : (dig B (a ^ e)).length ≤ K := by
 rw [a0h hB]
 by_cases h0 : e = 0
 · subst h0
   rw [Nat.pow_zero]
   exact Nat.lt_of_lt_of_le (show 1 < B ^ 1 by rw [Nat.pow_one]; omega) (Nat.pow_le_pow_right (by omega) hK)
 · exact Nat.lt_of_lt_of_le (Nat.pow_lt_pow_left ha h0) (Nat.pow_le_pow_right (by omega) h)
end Go.Slip
namespace Go.Proofs.YtgbbhlginbmghaaGreatDoor
open Go.RowKit Go.Slip
theorem m1n (n : Int) : bits .and .i64 n 1 = n % 2 := by
 have h1 : (BitVec.ofInt 64 1).toNat = 2 ^ 1 - 1 := by decide
 have key : (BitVec.ofInt 64 n &&& BitVec.ofInt 64 1).toNat = (n % ((2 ^ 64 : Nat) : Int)).toNat % 2 ^ 1 := by
  rw [BitVec.toNat_and, BitVec.toNat_ofInt, h1, Nat.and_two_pow_sub_one_eq_mod]
 show IntKind.i64.wrap ((BitVec.ofInt 64 n &&& BitVec.ofInt 64 1).toNat : Nat) = n % 2
 rw [key, IntKind.wrap_i64]
 omega
theorem w0u (base : Nat) (p : OA) (c : Nat) (a K : Nat) (w : World) (hp : Own w base .u32 139 p c (dig B32 a)) (hb : base ≤ w.heap.size) (ha : a < 100) (hK : K ≤ 1000000) :
 Calls Tryz.prog 47 #[.slice p (dig B32 a).length c, .int .i64 (K : Int)] w fun en w' => ∃ q d, en = .returned (.slice q (dig B32 (a ^ K)).length d) ∧ Own w' base .u32 139 q d (dig B32 (a ^ K)) ∧ Below w.heap.size w w' := by
 have hl : ∀ e, e ≤ K + 1 → (dig B32 (a ^ e)).length ≤ 1000001 := fun e he => Nat.le_trans (k0e (K := K + 1) a0a (by unfold B32; omega) he (by omega)) (by omega)
 have HM := fun W p q c d e f (h1 : e ≤ K + 1) (h2 : f ≤ K + 1) hp hq => lHd (show Calls Tryz.prog 48 #[.slice p (dig B32 (a ^ e)).length c, .slice q (dig B32 (a ^ f)).length d] W (f0k W .u32 139 (dig B32 (a ^ (e + f)))) by rw [Nat.pow_add]; exact n0b p q _ _ c d (a ^ e) (a ^ f) W hp hq rfl rfl (by have := hl e h1; have := hl f h2; omega))
 have h1 : dig B32 1 = dig B32 (a ^ 0) := by rw [Nat.pow_zero]
 have ha1 : dig B32 a = dig B32 (a ^ 1) := by rw [Nat.pow_one]
 have HO := fun W => lHd (sof 1 1 rfl (by omega) W)
 rw [h1] at HO
 rw [ha1] at hp ⊢
 clear h1 ha1
 have I := Inv.start w [ownF base .u32 139 p c (dig B32 (a ^ 1))] ⟨hp, True.intro⟩
 refine a0c [.v (.slice p (dig B32 (a ^ 1)).length c), .v (.int .i64 (K : Int))] I Tryz.func47 ?_
 refine zg I (fun Al W I => (HO W).out) fun Al V Iv _ hB _ kz => ?_
 rintro _ W ⟨p6, c6, rfl, o6, hb⟩
 refine ⟨_, rfl, kz _ _ hb fun I => ?_⟩
 have I := I.ownB base o6
 refine h0c I (fun gk fr bx gs => ∃ (U900 : Nat → Value) (e : Nat) (f : Nat) (k : Nat) (p0 : OA) (c0 : Nat) (p5 : OA) (c5 : Nat), fr = (.v (.slice p0 (dig B32 (a ^ f)).length c0) :: .v (.int .i64 (k : Int)) :: su 2 (.v (.slice none 0 0) :: .v (.slice p5 (dig B32 (a ^ e)).length c5) :: sw U900 6 17 []) : List SV) ∧ bx = [] ∧ gs = [ownF base .u32 139 p5 c5 (dig B32 (a ^ e)), ownF base .u32 139 p0 c0 (dig B32 (a ^ f))] ∧ (k0d K e f k) ∧ (f ≤ K + 1) ∧ (k ≤ K) ∧ (gk = k)) K (fun Al W U I => ⟨_, ⟨U, 0, 1, K, p, c, p6, c6, rfl, rfl, rfl, (by unfold k0d; omega), (by omega), (Nat.le_refl _), rfl⟩, I.pick [0, 1]⟩) ?_
 rintro J0 gk0 _ _ _ ⟨U900, e, f, k, p0, c0, p5, c5, rfl, rfl, rfl, hr, hf, hkK, hgk⟩ hJ0 Al W I
 rcases bTF (decide ((k : Int) > 0)) with f8 | f8
 · refine zb I 8 (decide ((k : Int) > 0)) (true) (f8) fun Al W I => zbin I 12 _ (fun _ _ _ _ _ => h0d .i64 (k : Int) (1) (((k % 2 : Nat) : Int)) ((by rw [m1n]; omega))) fun Al W I => ?_
   rcases bTF (((k % 2 : Nat) : Int) == 1) with f13 | f13
   · refine zb I 13 (((k % 2 : Nat) : Int) == 1) (true) (f13) fun Al W I => zg I (fun Al W I => have hzW := I.bel.size; (HM W p5 p0 c5 c0 e f (by have := hr.bd (by have := oTr f8; omega); omega) hf I.fa.1.rd I.fa.2.1.rd).out) fun Al V Iv _ hB _ kz => ?_
     rintro _ W ⟨p16, c16, rfl, o16, hb⟩
     refine ⟨_, rfl, kz _ _ hb fun I => ?_⟩
     have I := I.ownB base o16
     rcases bTF (decide ((k : Int) > 1)) with f18 | f18
     · refine zb I 18 (decide ((k : Int) > 1)) (true) (f18) fun Al W I => zg I (fun Al W I => (HM W p0 p0 c0 c0 f f hf hf I.fa.2.2.1.rd I.fa.2.2.1.rd).out) fun Al V Iv _ hB _ kz => ?_
       rintro _ W ⟨p21, c21, rfl, o21, hb⟩
       refine ⟨_, rfl, kz _ _ hb fun I => ?_⟩
       have I := I.ownB base o21
       refine zbin I 10 _ (fun _ _ _ _ _ => k0s .i64 (k : Int) .u64 (1) (((k / 2 : Nat) : Int)) (by omega) ((by show (k : Int).fdiv 2 = _; rw [Int.fdiv_eq_ediv_of_nonneg _ (by omega)]; omega))) fun Al W I => a0j I J0 fun Al W U I => hJ0 (k / 2) _ _ _ _ _ ((by have := oTr f8; omega)) ⟨U, e + f, f + f, k / 2, p21, c21, p16, c16, rfl, rfl, rfl, (by have h := hr.step; rw [show k % 2 = 1 by have := beq_iff_eq.1 f13; omega, Nat.mul_one] at h; exact h), (by have := hr.two (by have := oTr f18; omega); omega), (by omega), rfl⟩ (I.pick [1, 0])
     refine zb I 18 (decide ((k : Int) > 1)) (false) (f18) fun Al W I => zbin I 10 _ (fun _ _ _ _ _ => k0s .i64 (k : Int) .u64 (1) (((k / 2 : Nat) : Int)) (by omega) ((by show (k : Int).fdiv 2 = _; rw [Int.fdiv_eq_ediv_of_nonneg _ (by omega)]; omega))) fun Al W I => a0j I J0 fun Al W U I => hJ0 (k / 2) _ _ _ _ _ ((by have := oTr f8; omega)) ⟨U, e + f, f, k / 2, p0, c0, p16, c16, rfl, rfl, rfl, (by have h := oFa f18; have h1 := oTr f8; rw [show k / 2 = 0 by omega]; unfold k0d at hr ⊢; rw [show k = 1 by omega] at hr; omega), hf, (by omega), rfl⟩ (I.pick [0, 2])
   refine zb I 13 (((k % 2 : Nat) : Int) == 1) (false) (f13) fun Al W I => ?_
   rcases bTF (decide ((k : Int) > 1)) with f18 | f18
   · refine zb I 18 (decide ((k : Int) > 1)) (true) (f18) fun Al W I => zg I (fun Al W I => (HM W p0 p0 c0 c0 f f hf hf I.fa.2.1.rd I.fa.2.1.rd).out) fun Al V Iv _ hB _ kz => ?_
     rintro _ W ⟨p21, c21, rfl, o21, hb⟩
     refine ⟨_, rfl, kz _ _ hb fun I => ?_⟩
     have I := I.ownB base o21
     refine zbin I 10 _ (fun _ _ _ _ _ => k0s .i64 (k : Int) .u64 (1) (((k / 2 : Nat) : Int)) (by omega) ((by show (k : Int).fdiv 2 = _; rw [Int.fdiv_eq_ediv_of_nonneg _ (by omega)]; omega))) fun Al W I => a0j I J0 fun Al W U I => hJ0 (k / 2) _ _ _ _ _ ((by have := oTr f8; omega)) ⟨U, e, f + f, k / 2, p21, c21, p5, c5, rfl, rfl, rfl, (by have h := hr.step; rw [show k % 2 = 0 by have := bnF f13; omega, Nat.mul_zero, Nat.add_zero] at h; exact h), (by have := hr.two (by have := oTr f18; omega); omega), (by omega), rfl⟩ (I.pick [1, 0])
   refine zb I 18 (decide ((k : Int) > 1)) (false) (f18) fun Al W I => zbin I 10 _ (fun _ _ _ _ _ => k0s .i64 (k : Int) .u64 (1) (((k / 2 : Nat) : Int)) (by omega) ((by show (k : Int).fdiv 2 = _; rw [Int.fdiv_eq_ediv_of_nonneg _ (by omega)]; omega))) fun Al W I => a0j I J0 fun Al W U I => hJ0 (k / 2) _ _ _ _ _ ((by have := oTr f8; omega)) ⟨U, e, f, k / 2, p0, c0, p5, c5, rfl, rfl, rfl, (by have h := oFa f18; have h1 := oTr f8; have h2 := bnF f13; exfalso; omega), hf, (by omega), rfl⟩ (I.pick [0, 1])
 refine zb I 8 (decide ((k : Int) > 0)) (false) (f8) fun Al W I => ?_
 have he : e = K := by have h := oFa f8; unfold k0d at hr; rw [show k = 0 by omega] at hr; omega
 refine zret I (v := fun Al => .slice p5 (dig B32 (a ^ e)).length c5) fun Al W I => ?_
 subst he; exact ⟨p5, c5, rfl, I.fa.1, I.below⟩
theorem k1h : Tryz.prog.underlying 44 = some (.slice 5) := by kernel_rfl
theorem p1q : Tryz.prog.underlying 5 = some (.int .u8) := by kernel_rfl
theorem d1p : Tryz.prog.underlying 9 = some .string := by kernel_rfl
theorem d1q (s : ByteArray) (w : World) (hs : s.size ≤ 100000000) (hd : j1t s) :
 Calls Tryz.prog 43 #[.string s] w (f0k w .u32 139 (dig B32 (a0m (a0b s)))) := by
 have HD := lHd hd
 have HT := lHd (b0c s)
 clear hd
 go_enter Tryz.func43, Tryz.ntmps43
 go_wp2
 go_loopg [0, 3] s.size (fun g sv av wr => ∃ (k : Nat) (t : OA) (e : Nat) (a : Nat) (r : ByteArray), sv = .string r ∧ av = .slice t (dig B32 a).length e ∧ g + k = s.size ∧ r.size + k = s.size ∧ Hid (a0b r = (a0b s).drop k) ∧ Hid (a = a0m ((a0b s).take k)) ∧
     Own wr w.heap.size .u32 139 t e (dig B32 a) ∧ Below w.heap.size w wr)
 case atStart => exact ⟨0, none, 0, 0, s, rfl, by rw [a0d]; rfl, by omega, by omega, rfl, (show 0 = a0m (List.take 0 _) by simp [a0m]), by rw [a0d]; exact Own.nil _ _ _ _, Below.refl _ _⟩
 case round =>
  obtain ⟨k, t, e, a, r, rfl, rfl, hg, hk, HB, HA, hoq, hb⟩ := hrel
  have hal : (dig B32 a).length ≤ k := by
   rw [HA.out, a0h a0a]
   have h1 := g0j ((a0b s).take k) (fun j hj => by rw [List.length_take, HT.out] at hj; rw [e0z (by omega)]; exact (HD.out j (by omega)).2)
   rw [List.length_take, HT.out, Nat.min_eq_left (by omega)] at h1
   exact Nat.lt_of_lt_of_le h1 (Nat.pow_le_pow_left (by unfold B32; omega) k)
  by_cases hr0 : 0 < r.size
  · by_cases h9 : 9 ≤ r.size
    · have hcl : (r.extract 0 9).size = 9 := by rw [ByteArray.size_extract]; omega
      have hcb := lHd (show a0b (r.extract 0 9) = ((a0b s).drop k).take 9 by rw [c0y, List.drop_zero, HB.out])
      have hrb := lHd (show a0b (r.extract 9 r.size) = (a0b s).drop (k + 9) by rw [c0y, ← b0c r, List.take_length, HB.out, List.drop_drop])
      have hrs : (r.extract 9 r.size).size + 9 = r.size := by rw [ByteArray.size_extract]; omega
      have HN := lHd (show a0m ((a0b s).take (k + 9)) = a * 10 ^ 9 + a0m (((a0b s).drop k).take 9) by rw [HA.out]; exact m0r _ _ _ (by rw [HT.out]; omega))
      have HC := lHd (show ∀ j, j < 9 → 48 ≤ dg (((a0b s).drop k).take 9) j ∧ dg (((a0b s).drop k).take 9) j ≤ 57 from fun j hj => by
        rw [e0z hj, f0a]; exact HD.out (k + j) (by omega))
      have HCL := lHd (show (((a0b s).drop k).take 9).length = 9 by rw [List.length_take, List.length_drop, HT.out]; omega)
      generalize hch : ((a0b s).drop k).take 9 = ch at *
      obtain ⟨r2, hrn⟩ : ∃ r2, r2 = r.extract 9 r.size := ⟨_, rfl⟩
      rw [← hrn] at hrb hrs
      have HRE := lHd hrn
      have hrl := Nat.le_of_eq hrs
      have hrl2 := Nat.le_of_eq hrs.symm
      clear hch hrn hrs
      have hmn : min (9 : Int) (r.size : Int) = 9 := by omega
      have hmk : min 9 r.size = 9 := by omega
      go_wp2_with (refine s0b rfl _ _ _ (by rfl) d1p k1h p1q _ (by rfl) ?_; intro p2 c2 w2 hr2 hb2)
      try simp only [hmn, Int.toNat_natCast, Int.toNat_ofNat, hmk] at hr2
      try simp only [hmn, Int.toNat_natCast, Int.toNat_ofNat, hmk]
      clear hmn hmk
      try rw [hcl]
      first | rw [hcb.out] at hr2 | (have hcb2 := hcb.out; rw [show r.extract 0 r.size = r by simp] at hcb2; rw [hcb2] at hr2)
      have hs2 := hr2.solid
      rw [HCL.out] at hs2
      go_loop [5, 6, 22] (fun dv tv iv => ∃ (i d t : Nat), iv = .int .i64 i ∧ dv = .int .u64 d ∧ tv = .int .u64 t ∧ i ≤ 9 ∧ d < 1000000000 ∧ t ≤ 1000000000 ∧ Hid (d = a0m (ch.take i)) ∧ Hid (t = 10 ^ i)) (fun _ _ iv => 9 - (intOf iv).toNat)
      case atStart => exact ⟨0, 0, 1, rfl, rfl, rfl, Nat.zero_le _, by omega, by omega, (show 0 = a0m (List.take 0 _) by simp [a0m]), (show 1 = 10 ^ 0 from rfl)⟩
      case round =>
       obtain ⟨i, d, ten, rfl, rfl, rfl, hi, hd9, ht9, HD2, HT2⟩ := hrel
       by_cases hin : i < 9
       · have hc1 := hr2.cells i (by rw [HCL.out]; exact hin)
         obtain ⟨hv1, hv2⟩ := HC.out i hin
         obtain ⟨v, hv⟩ : ∃ v, dg ch i = v + 48 := ⟨dg ch i - 48, by omega⟩
         have HN2 : Hid (10 * d + v = a0m (ch.take (i + 1))) := by
          show _ = _
          rw [f0f _ _ (by rw [HCL.out]; exact hin), ← HD2.out, hv]; omega
         have HT3 : Hid (10 * ten = 10 ^ (i + 1)) := by show _ = _; rw [HT2.out, Nat.pow_succ]; omega
         have hdb : 10 * d + v < 1000000000 := by
          rw [HN2.out]
          have h1 := g0j (ch.take (i + 1)) (fun j hj => by rw [List.length_take, HCL.out] at hj; rw [e0z (by omega)]; exact (HC.out j (by omega)).2)
          rw [List.length_take, HCL.out, Nat.min_eq_left (by omega)] at h1
          exact Nat.lt_of_lt_of_le h1 (Nat.pow_le_pow_right (by omega) (show i + 1 ≤ 9 by omega))
         have htb : 10 * ten ≤ 1000000000 := by
          rw [HT3.out]; exact Nat.pow_le_pow_right (show 0 < 10 by omega) (show i + 1 ≤ 9 by omega)
         rw [hv] at hc1
         have hv9 : v ≤ 9 := by omega
         clear hv hv1 hv2
         go_wp2
         go_round
         case rel => exact ⟨i + 1, 10 * d + v, 10 * ten, by go_num, by go_num, by go_num, hin, hdb, htb, HN2, HT3⟩
         case measure => simp [intOf]; omega
       · obtain rfl : i = 9 := by omega
         have HD3 := lHd (show d = a0m ch by rw [HD2.out, List.take_of_length_le (by rw [HCL.out]; exact Nat.le_refl _)])
         have htp : 1 ≤ ten := by rw [HT2.out]; exact Nat.pow_pos (by omega)
         have HE := lHd (show a0m ((a0b s).take (k + 9)) = a * ten + d by rw [HN.out, ← HT2.out, ← HD3.out])
         have H0 := lHd (k0t.start (b0w a0a a) ten d)
         go_wp2
         go_loopw [5, 40] (fun dv iv w3 => ∃ (i d2 : Nat) (L : List Nat), iv = .int .i64 i ∧ dv = .int .u64 d2 ∧ d2 < 4294967296 ∧ i ≤ (dig B32 a).length ∧ Hid (L.length = (dig B32 a).length) ∧ Own w3 w.heap.size .u32 139 t e L ∧ Below w.heap.size w w3 ∧ Hid (k0t L (dig B32 a) ten d i d2))
          (fun _ iv _ => (dig B32 a).length - (intOf iv).toNat)
         case atStart => exact ⟨0, d, _, rfl, rfl, by omega, Nat.zero_le _, rfl, hoq.past hb2, hb.trans (hb2.mono hb.size), H0⟩
         case round =>
          obtain ⟨i, d2, L, rfl, rfl, hd2, hi2, hL, hoL, hb3, HR⟩ := hrel
          have hsL := hoL.solid
          rw [hL.out] at hsL
          by_cases hin2 : i < (dig B32 a).length
          · have hc1 := hoL.rd.cells i (by rw [hL.out]; exact hin2)
            rw [HR.out.2.2.1 i (Nat.le_refl _)] at hc1
            have hxd := a0n (B := 4294967296) (by omega) _ (b0w a0a a) i
            generalize hx : dg (dig B32 a) i = x at *
            have hpm := Nat.mul_le_mul (show x ≤ 4294967295 by omega) ht9
            obtain ⟨u, hu⟩ : ∃ u, u = x * ten + d2 := ⟨_, rfl⟩
            have hub : u < 18446744073709551616 := by omega
            have hub2 : u / 4294967296 < 4294967296 := by omega
            have HS := lHd (HR.out.step hin2 u (by rw [hx]; exact hu))
            have eu : (x : Int) * (ten : Int) + (d2 : Int) = (u : Nat) := by rw [hu]; simp
            have em : (x : Int) * (ten : Int) < 18446744073709551616 := by
             have : ((x * ten : Nat) : Int) = (x : Int) * (ten : Int) := by simp
             rw [← this]; omega
            have em0 : 0 ≤ (x : Int) * (ten : Int) := by
             have : ((x * ten : Nat) : Int) = (x : Int) * (ten : Int) := by simp
             rw [← this]; omega
            clear hu hx hpm
            go_wp2_with (refine a0v rfl _ _ _ rfl 139 b0r _ _ _ _ hoL i (by rw [hL.out]; exact hin2) _ ?_ rfl rfl ?_; omega; intro w5 ho5 hg5 hb5)
            have e6 : ((u : Int) % 4294967296).toNat = u % B32 := by unfold B32; omega
            rw [e6] at ho5
            go_roundw
            case rel => exact ⟨i + 1, u / B32, _, by go_num, (by unfold B32; go_num), (by unfold B32; exact hub2), hin2, (by show (List.set _ _ _).length = _; rw [List.length_set]; exact hL.out), ho5, hb3.trans hb5, HS⟩
            case measure => simp [intOf]; omega
          · obtain rfl : i = (dig B32 a).length := by omega
            by_cases hd0 : 0 < d2
            · have HF := lHd (HR.out.done1 hd0 (by unfold B32; exact hd2))
              go_wp2_with (first
                | (refine c0h rfl _ _ rfl b0r _ ?_ rfl ?_; omega; intro p6 w6 ho6 hb6 hz6 hp6)
                | (at_builtin; refine c0g rfl _ _ _ rfl b0r _ _ _ _ _ (hoL.past hb6) hL.out.symm _ _ _ _ ho6.rd rfl rfl rfl ?_ ?_ ?_; (rw [hL.out]; simp; omega); (have := hb6.size; have := hb3.size; omega); intro p7 c7 w7 ho7 hg7 hb7 hn7))
              rw [Int.toNat_natCast] at ho7
              have hb8 := hb3.trans ((hb6.mono hb3.size).trans hb7)
              have hln := lHd (show (L ++ [((d2 : Int)).toNat]).length = (dig B32 (a * ten + d)).length by rw [← HF.out]; simp)
              rw [HF.out] at ho7
              go_roundg (s.size - (k + 9))
              case measure => omega
              case rel => exact ⟨k + 9, p7, c7, a * ten + d, r2, (by rw [HRE.out]; try simp), (by rw [← HF.out]; simp), by omega, by omega, hrb, (show _ = _ from HE.out.symm), ho7, hb8⟩
            · obtain rfl : d2 = 0 := by omega
              have HF := lHd (HR.out.done0 htp)
              have hF2 := hL.out
              rw [HF.out] at hoL
              go_wp2
              go_roundg (s.size - (k + 9))
              case measure => omega
              case rel => exact ⟨k + 9, t, e, a * ten + d, r2, (by rw [HRE.out]; try simp), (by rw [← HF.out, hL.out]), by omega, by omega, hrb, (show _ = _ from HE.out.symm), hoL, hb3⟩
    · have h9' : r.size ≤ 8 := by omega
      clear h9
      have hcl : (r.extract 0 r.size).size = r.size := by rw [ByteArray.size_extract]; omega
      have hcb := lHd (show a0b (r.extract 0 r.size) = ((a0b s).drop k).take r.size by rw [c0y, List.drop_zero, HB.out])
      have hrb := lHd (show a0b (r.extract r.size r.size) = (a0b s).drop (k + r.size) by rw [c0y, ← b0c r, List.take_length, HB.out, List.drop_drop])
      have hrs : (r.extract r.size r.size).size + r.size = r.size := by rw [ByteArray.size_extract]; omega
      have HN := lHd (show a0m ((a0b s).take (k + r.size)) = a * 10 ^ r.size + a0m (((a0b s).drop k).take r.size) by rw [HA.out]; exact m0r _ _ _ (by rw [HT.out]; omega))
      have HC := lHd (show ∀ j, j < r.size → 48 ≤ dg (((a0b s).drop k).take r.size) j ∧ dg (((a0b s).drop k).take r.size) j ≤ 57 from fun j hj => by
        rw [e0z hj, f0a]; exact HD.out (k + j) (by omega))
      have HCL := lHd (show (((a0b s).drop k).take r.size).length = r.size by rw [List.length_take, List.length_drop, HT.out]; omega)
      generalize hch : ((a0b s).drop k).take r.size = ch at *
      obtain ⟨r2, hrn⟩ : ∃ r2, r2 = r.extract r.size r.size := ⟨_, rfl⟩
      rw [← hrn] at hrb hrs
      have HRE := lHd hrn
      have hrl := Nat.le_of_eq hrs
      have hrl2 := Nat.le_of_eq hrs.symm
      clear hch hrn hrs
      have hmn : min (9 : Int) (r.size : Int) = (r.size : Int) := by omega
      have hmk : min r.size r.size = r.size := by omega
      go_wp2_with (refine s0b rfl _ _ _ (by rfl) d1p k1h p1q _ (by rfl) ?_; intro p2 c2 w2 hr2 hb2)
      try simp only [hmn, Int.toNat_natCast, Int.toNat_ofNat, hmk] at hr2
      try simp only [hmn, Int.toNat_natCast, Int.toNat_ofNat, hmk]
      clear hmn hmk
      try rw [hcl]
      first | rw [hcb.out] at hr2 | (have hcb2 := hcb.out; rw [show r.extract 0 r.size = r by simp] at hcb2; rw [hcb2] at hr2)
      have hs2 := hr2.solid
      rw [HCL.out] at hs2
      go_loop [5, 6, 22] (fun dv tv iv => ∃ (i d t : Nat), iv = .int .i64 i ∧ dv = .int .u64 d ∧ tv = .int .u64 t ∧ i ≤ r.size ∧ d < 1000000000 ∧ t ≤ 1000000000 ∧ Hid (d = a0m (ch.take i)) ∧ Hid (t = 10 ^ i)) (fun _ _ iv => r.size - (intOf iv).toNat)
      case atStart => exact ⟨0, 0, 1, rfl, rfl, rfl, Nat.zero_le _, by omega, by omega, (show 0 = a0m (List.take 0 _) by simp [a0m]), (show 1 = 10 ^ 0 from rfl)⟩
      case round =>
       obtain ⟨i, d, ten, rfl, rfl, rfl, hi, hd9, ht9, HD2, HT2⟩ := hrel
       by_cases hin : i < r.size
       · have hc1 := hr2.cells i (by rw [HCL.out]; exact hin)
         obtain ⟨hv1, hv2⟩ := HC.out i hin
         obtain ⟨v, hv⟩ : ∃ v, dg ch i = v + 48 := ⟨dg ch i - 48, by omega⟩
         have HN2 : Hid (10 * d + v = a0m (ch.take (i + 1))) := by
          show _ = _
          rw [f0f _ _ (by rw [HCL.out]; exact hin), ← HD2.out, hv]; omega
         have HT3 : Hid (10 * ten = 10 ^ (i + 1)) := by show _ = _; rw [HT2.out, Nat.pow_succ]; omega
         have hdb : 10 * d + v < 1000000000 := by
          rw [HN2.out]
          have h1 := g0j (ch.take (i + 1)) (fun j hj => by rw [List.length_take, HCL.out] at hj; rw [e0z (by omega)]; exact (HC.out j (by omega)).2)
          rw [List.length_take, HCL.out, Nat.min_eq_left (by omega)] at h1
          exact Nat.lt_of_lt_of_le h1 (Nat.pow_le_pow_right (by omega) (show i + 1 ≤ 9 by omega))
         have htb : 10 * ten ≤ 1000000000 := by
          rw [HT3.out]; exact Nat.pow_le_pow_right (show 0 < 10 by omega) (show i + 1 ≤ 9 by omega)
         rw [hv] at hc1
         have hv9 : v ≤ 9 := by omega
         clear hv hv1 hv2
         go_wp2
         go_round
         case rel => exact ⟨i + 1, 10 * d + v, 10 * ten, by go_num, by go_num, by go_num, hin, hdb, htb, HN2, HT3⟩
         case measure => simp [intOf]; omega
       · obtain rfl : i = r.size := by omega
         have HD3 := lHd (show d = a0m ch by rw [HD2.out, List.take_of_length_le (by rw [HCL.out]; exact Nat.le_refl _)])
         have htp : 1 ≤ ten := by rw [HT2.out]; exact Nat.pow_pos (by omega)
         have HE := lHd (show a0m ((a0b s).take (k + r.size)) = a * ten + d by rw [HN.out, ← HT2.out, ← HD3.out])
         have H0 := lHd (k0t.start (b0w a0a a) ten d)
         go_wp2
         go_loopw [5, 40] (fun dv iv w3 => ∃ (i d2 : Nat) (L : List Nat), iv = .int .i64 i ∧ dv = .int .u64 d2 ∧ d2 < 4294967296 ∧ i ≤ (dig B32 a).length ∧ Hid (L.length = (dig B32 a).length) ∧ Own w3 w.heap.size .u32 139 t e L ∧ Below w.heap.size w w3 ∧ Hid (k0t L (dig B32 a) ten d i d2))
          (fun _ iv _ => (dig B32 a).length - (intOf iv).toNat)
         case atStart => exact ⟨0, d, _, rfl, rfl, by omega, Nat.zero_le _, rfl, hoq.past hb2, hb.trans (hb2.mono hb.size), H0⟩
         case round =>
          obtain ⟨i, d2, L, rfl, rfl, hd2, hi2, hL, hoL, hb3, HR⟩ := hrel
          have hsL := hoL.solid
          rw [hL.out] at hsL
          by_cases hin2 : i < (dig B32 a).length
          · have hc1 := hoL.rd.cells i (by rw [hL.out]; exact hin2)
            rw [HR.out.2.2.1 i (Nat.le_refl _)] at hc1
            have hxd := a0n (B := 4294967296) (by omega) _ (b0w a0a a) i
            generalize hx : dg (dig B32 a) i = x at *
            have hpm := Nat.mul_le_mul (show x ≤ 4294967295 by omega) ht9
            obtain ⟨u, hu⟩ : ∃ u, u = x * ten + d2 := ⟨_, rfl⟩
            have hub : u < 18446744073709551616 := by omega
            have hub2 : u / 4294967296 < 4294967296 := by omega
            have HS := lHd (HR.out.step hin2 u (by rw [hx]; exact hu))
            have eu : (x : Int) * (ten : Int) + (d2 : Int) = (u : Nat) := by rw [hu]; simp
            have em : (x : Int) * (ten : Int) < 18446744073709551616 := by
             have : ((x * ten : Nat) : Int) = (x : Int) * (ten : Int) := by simp
             rw [← this]; omega
            have em0 : 0 ≤ (x : Int) * (ten : Int) := by
             have : ((x * ten : Nat) : Int) = (x : Int) * (ten : Int) := by simp
             rw [← this]; omega
            clear hu hx hpm
            go_wp2_with (refine a0v rfl _ _ _ rfl 139 b0r _ _ _ _ hoL i (by rw [hL.out]; exact hin2) _ ?_ rfl rfl ?_; omega; intro w5 ho5 hg5 hb5)
            have e6 : ((u : Int) % 4294967296).toNat = u % B32 := by unfold B32; omega
            rw [e6] at ho5
            go_roundw
            case rel => exact ⟨i + 1, u / B32, _, by go_num, (by unfold B32; go_num), (by unfold B32; exact hub2), hin2, (by show (List.set _ _ _).length = _; rw [List.length_set]; exact hL.out), ho5, hb3.trans hb5, HS⟩
            case measure => simp [intOf]; omega
          · obtain rfl : i = (dig B32 a).length := by omega
            by_cases hd0 : 0 < d2
            · have HF := lHd (HR.out.done1 hd0 (by unfold B32; exact hd2))
              go_wp2_with (first
                | (refine c0h rfl _ _ rfl b0r _ ?_ rfl ?_; omega; intro p6 w6 ho6 hb6 hz6 hp6)
                | (at_builtin; refine c0g rfl _ _ _ rfl b0r _ _ _ _ _ (hoL.past hb6) hL.out.symm _ _ _ _ ho6.rd rfl rfl rfl ?_ ?_ ?_; (rw [hL.out]; simp; omega); (have := hb6.size; have := hb3.size; omega); intro p7 c7 w7 ho7 hg7 hb7 hn7))
              rw [Int.toNat_natCast] at ho7
              have hb8 := hb3.trans ((hb6.mono hb3.size).trans hb7)
              have hln := lHd (show (L ++ [((d2 : Int)).toNat]).length = (dig B32 (a * ten + d)).length by rw [← HF.out]; simp)
              rw [HF.out] at ho7
              go_roundg (s.size - (k + r.size))
              case measure => omega
              case rel => exact ⟨k + r.size, p7, c7, a * ten + d, r2, (by rw [HRE.out]; try simp), (by rw [← HF.out]; simp), by omega, by omega, hrb, (show _ = _ from HE.out.symm), ho7, hb8⟩
            · obtain rfl : d2 = 0 := by omega
              have HF := lHd (HR.out.done0 htp)
              have hF2 := hL.out
              rw [HF.out] at hoL
              go_wp2
              go_roundg (s.size - (k + r.size))
              case measure => omega
              case rel => exact ⟨k + r.size, t, e, a * ten + d, r2, (by rw [HRE.out]; try simp), (by rw [← HF.out, hL.out]), by omega, by omega, hrb, (show _ = _ from HE.out.symm), hoL, hb3⟩
  · have hk1 : k = s.size := by omega
    have HE := lHd (show a = a0m (a0b s) by rw [HA.out, List.take_of_length_le (by rw [HT.out]; omega)])
    clear hk1
    go_wp2
    go_ret
    rw [← HE.out]
    exact ⟨t, e, rfl, hoq, hb⟩
theorem v0g (base : Nat) (p : OA) (n c : Nat) (xs : List Nat) (w : World) (ho : Own w base .u8 5 p c xs) (hn : n = xs.length) (hl : xs.length ≤ 4000000000) (h0 : 0 < xs.length) :
 Calls Tryz.prog 99 #[.slice p n c] w fun e w' => e = .returned (.tuple #[]) ∧ Own w' base .u8 5 p c xs.reverse ∧ Below base w w' := by
 subst hn
 have HR0 := lHd (g0x.start xs h0)
 have hsx := ho.solid
 have hbk := ho.blk_lt (hsx h0).1
 go_enter Tryz.func99, Tryz.ntmps99
 go_wp2
 go_loopw [2, 3] (fun iv jv wr => ∃ (i j : Nat) (L : List Nat), iv = .int .i64 i ∧ jv = .int .i64 j ∧ i ≤ xs.length ∧ j < xs.length ∧ Own wr base .u8 5 p c L ∧ Below base w wr ∧ Hid (g0x L xs i j))
  (fun iv _ _ => xs.length - (intOf iv).toNat)
 case atStart => exact ⟨0, xs.length - 1, xs, rfl, by go_num, Nat.zero_le _, by omega, ho, Below.refl _ _, HR0⟩
 case round =>
  obtain ⟨i, j, L, rfl, rfl, hi, hj, hoL, hbL, HR⟩ := hrel
  by_cases hij : i < j
  · have hLl := lHd HR.out.1
    have ci := hoL.rd.cells i (by rw [hLl.out]; omega)
    have cj := hoL.rd.cells j (by rw [hLl.out]; omega)
    have fi := e0v hoL i (by rw [hLl.out]; omega)
    have s1 := f0w hoL i (by rw [hLl.out]; omega) (dg L j)
    have fj := e0v s1.1 j (by rw [List.length_set, hLl.out]; omega)
    have cj2 := s1.1.rd.cells j (by rw [List.length_set, hLl.out]; omega)
    rw [b0n (by omega)] at cj2
    have s2 := f0w s1.1 j (by rw [List.length_set, hLl.out]; omega) (dg L i)
    have HS := lHd (HR.out.step hij)
    have i1 : (i : Int) < (xs.length : Int) := by omega
    have j1 : (j : Int) < (xs.length : Int) := by omega
    have i0 : (0 : Int) ≤ (i : Int) := by omega
    have j0 : (0 : Int) ≤ (j : Int) := by omega
    have hb3 : Below base w ((wr.setCell (at_ p i) (.int .u8 (dg L j : Nat))).setCell (at_ p j) (.int .u8 (dg L i : Nat))) :=
     (hbL.setCell (by exact s1.2.2) _).setCell (by exact s1.2.2) _
    have S2 := lHd s2
    have HB := lHd hb3
    clear s1 s2 hb3
    go_wp2_with fail
    go_region
    have ho3 := S2.out.1.drew
    have hb3 := HB.out.drew
    clear ci cj fi fj cj2 S2 HB
    generalize ((wr.setCell (at_ p i) (.int .u8 (dg L j : Nat))).setCell (at_ p j) (.int .u8 (dg L i : Nat))).drew = w3 at ho3 hb3 ⊢
    go_wp2
    go_roundw
    case rel => exact ⟨i + 1, j - 1, _, by go_num, by go_num, by omega, by omega, ho3, hb3, HS⟩
    case measure => first | (simp [intOf]; done) | (simp [intOf]; omega)
  · have HD := lHd (HR.out.done hij)
    go_wp2
    go_end0
    exact ⟨rfl, HD.out ▸ hoL, hbL⟩
theorem y0x : Tryz.prog.underlying 44 = some (.slice 5) := by kernel_rfl
theorem d1r : Tryz.prog.underlying 5 = some (.int .u8) := by kernel_rfl
theorem v0h : Tryz.prog.underlying 9 = some .string := by kernel_rfl
theorem v0i (p : OA) (n c : Nat) (N : Nat) (w : World) (hp : Rd w .u32 p (dig B32 N)) (hn : n = (dig B32 N).length) (hl : (dig B32 N).length ≤ 100000000) :
 Calls Tryz.prog 65 #[.slice p n c] w fun e w' => e = .returned (.string (a0e (a0y N))) ∧ Below w.heap.size w w' := by
 subst hn
 go_enter Tryz.func65, Tryz.ntmps65
 go_wp2
 go_loopg [0, 3] N (fun a av ov wr => ∃ (p q : OA) (c d : Nat) (D : List Nat), av = .slice p (dig B32 a).length c ∧ ov = .slice q D.length d ∧ (dig B32 a).length ≤ (dig B32 N).length ∧ Rd wr .u32 p (dig B32 a) ∧
     Own wr w.heap.size .u8 5 q d (D.map (· + 48)) ∧ Below w.heap.size w wr ∧ Hid (j0d N D a))
 case atStart => exact ⟨p, none, c, 0, [], rfl, rfl, Nat.le_refl _, hp, Own.nil _ _ _ _, Below.refl _ _, j0d.start N⟩
 case round =>
  obtain ⟨p, q, c, d, D, rfl, rfl, hla, hpa, hoq, hb, HR⟩ := hrel
  by_cases h0 : 0 < (dig B32 gk).length
  · have hpos : 0 < gk := by
     rcases Nat.eq_zero_or_pos gk with h | h
     · subst h; rw [a0d] at h0; simp at h0
     · exact h
    have HI := lHd (HR.out.enter hpos)
    have hdiv := Nat.div_lt_self hpos (show 1 < 1000000000 by omega)
    have hlen := a0k a0a (Nat.le_of_lt hdiv)
    have hmod := Nat.mod_lt gk (show 0 < 1000000000 by omega)
    go_wp2_with (go_at_call 113; refine (s0r p _ c gk 1000000000 _ hpa rfl (by omega) (by omega) (by omega)).mono ?_; rintro e w1 ⟨p1, c1, rfl, ho1, hb1⟩)
    have hoq1 := hoq.past hb1
    have hb2 := hb.trans (hb1.mono hb.size)
    have hr1 := ho1.rd
    have hap : m0b q p1 (dig B32 (gk / 1000000000)) := fun h1 h2 => by
     have e1 := (hoq.blk_lt h2).2
     have e2 := (ho1.blk_lt (hr1.solid h1).1).1
     omega
    clear hoq hb hpa hb1 hpos h0 ho1
    generalize gk / 1000000000 = a1 at *
    obtain ⟨wo, rfl⟩ : ∃ wo : World, wo = wr := ⟨_, rfl⟩
    clear HR
    have hlenN : (dig B32 a1).length ≤ (dig B32 N).length := by omega
    clear hlen hla
    go_loopg [3, 4, 5] 9 (fun g ov rv iv wr => ∃ (i r : Nat) (q : OA) (d : Nat) (D : List Nat), iv = .int .i64 i ∧ rv = .int .u32 r ∧ ov = .slice q D.length d ∧ g + i = 9 ∧ r < 4294967296 ∧ Rd wr .u32 p1 (dig B32 a1) ∧ m0b q p1 (dig B32 a1) ∧
      Own wr w.heap.size .u8 5 q d (D.map (· + 48)) ∧ Below w.heap.size w wr ∧ Hid (p0h N D i r a1))
    case atStart => exact ⟨0, gk % 1000000000, q, d, D, rfl, rfl, rfl, rfl, by omega, hr1, hap, hoq1, hb2, HI⟩
    case round =>
     obtain ⟨i, r, q, d, D, rfl, rfl, rfl, hgi, hr, hp1, hap, hoq, hb, HI⟩ := hrel
     have ha : 0 < (dig B32 a1).length ↔ 0 < a1 := by have := a0g a0a a1; omega
     by_cases hi9 : i < 9
     · by_cases hc : 0 < r ∨ 0 < a1
       · have HS := lHd (HI.out.step hi9 hc)
         have hsz := HI.out.size hc
         have HP := lHd hap
         clear hap
         by_cases hr0 : 0 < r
         · clear hc ha
           go_wp2_with (first
             | (refine c0h rfl _ _ rfl p0l _ ?_ rfl ?_; omega; intro p2 w2 ho2 hb2 hz2 hp2)
             | (at_builtin; refine c0g rfl _ _ _ rfl p0l _ _ _ _ _ (hoq.past hb2) (by simp) _ _ _ _ ho2.rd rfl rfl rfl ?_ ?_ ?_; (simp; omega); (have := hb2.size; have := hb.size; omega); intro p3 c3 w3 ho3 hg3 hb3 hn3))
           have hb4 := hb.trans ((hb2.mono hb.size).trans hb3)
           have e4 : D.map (· + 48) ++ [((48 : Int) + (r : Int) % 10).toNat] = (D ++ [r % 10]).map (· + 48) := by
            rw [List.map_append, show ((48 : Int) + (r : Int) % 10).toNat = r % 10 + 48 by omega]; rfl
           rw [e4] at ho3
           have hp3 := (hp1.past hb2).appended hg3 HP.out
           have hap3 := HP.out.next (hp1.past hb2) hn3.2
           go_roundg (gk - 1)
           case measure => omega
           case rel => exact ⟨i + 1, r / 10, p3, c3, D ++ [r % 10], by go_num, by go_num, by simp, by omega, by omega, hp3, hap3, ho3, hb4, HS⟩
         · obtain rfl : r = 0 := by omega
           have ha1 : 0 < (dig B32 a1).length := ha.2 (by omega)
           clear hc ha hr0
           go_wp2_with (first
             | (refine c0h rfl _ _ rfl p0l _ ?_ rfl ?_; omega; intro p2 w2 ho2 hb2 hz2 hp2)
             | (at_builtin; refine c0g rfl _ _ _ rfl p0l _ _ _ _ _ (hoq.past hb2) (by simp) _ _ _ _ ho2.rd rfl rfl rfl ?_ ?_ ?_; (simp; omega); (have := hb2.size; have := hb.size; omega); intro p3 c3 w3 ho3 hg3 hb3 hn3))
           have hb4 := hb.trans ((hb2.mono hb.size).trans hb3)
           have e4 : D.map (· + 48) ++ [(48 : Int).toNat] = (D ++ [0 % 10]).map (· + 48) := by
            rw [List.map_append]; rfl
           rw [e4] at ho3
           have hp3 := (hp1.past hb2).appended hg3 HP.out
           have hap3 := HP.out.next (hp1.past hb2) hn3.2
           go_roundg (gk - 1)
           case measure => omega
           case rel => exact ⟨i + 1, 0 / 10, p3, c3, D ++ [0 % 10], by go_num, by go_num, by simp, by omega, by omega, hp3, hap3, ho3, hb4, HS⟩
       · have HL := lHd (HI.out.leave (by omega) (fun h => hc h.2))
         obtain rfl : r = 0 := by omega
         obtain rfl : a1 = 0 := by omega
         rw [a0d] at *
         clear hc ha
         go_wp2
         go_roundg 0
         case measure => exact hdiv
         case rel => exact ⟨p1, q, c1, d, D, by rw [a0d]; rfl, rfl, by rw [a0d]; simp, by rw [a0d]; exact hp1, hoq, hb, HL⟩
     · have HL := lHd (HI.out.leave (by omega) (fun h => hi9 h.1))
       clear ha
       go_wp2
       go_roundg a1
       case measure => exact hdiv
       case rel => exact ⟨p1, q, _, d, D, rfl, rfl, hlenN, hp1, hoq, hb, HL⟩
  · obtain rfl : gk = 0 := (a0g a0a gk).1 (by omega)
    rw [a0d] at hpa
    have HD := lHd HR.out.done
    by_cases hD : D.length = 0
    · have hN : Hid (N = 0) := by
       have h1 := HD.out
       rw [List.eq_nil_of_length_eq_zero hD] at h1
       exact (o0c (by omega) N).1 h1.symm
      rw [hD]
      clear h0 hla
      rw [a0d]
      go_wp2
      go_ret
      refine ⟨?_, hb⟩
      rw [hN.out]
      rfl
    · have hN : Hid (a0y N = (D.map (· + 48)).reverse) := by
       show a0y N = _
       unfold a0y
       rw [if_neg, HD.out, List.map_reverse]
       intro e
       rw [e, a0d] at HD
       exact hD (by rw [HD.out]; rfl)
      have hDl : D.length ≤ 32 * (dig B32 N).length := by
       have := e1z N
       rwa [← HD.out] at this
      have hD1 : 0 < D.length := by omega
      have hD2 : ((D.length : Int) == 0) = false := bFn (by omega)
      clear h0 hla hD
      rw [a0d]
      go_wp2_with (first
        | (go_at_call 99; refine (v0g w.heap.size q _ d _ _ hoq (by simp) (by simp; omega) (by simp; omega)).mono ?_; rintro e w3 ⟨rfl, ho3, hb3⟩)
        | (refine k1r rfl _ _ _ (by rfl) y0x d1r v0h _ _ _ _ ho3.rd ?_ (by rfl) ?_; simp))
      go_ret
      exact ⟨by rw [hN.out]; rfl, hb.trans hb3⟩
end Go.Proofs.YtgbbhlginbmghaaGreatDoor
namespace Go.Slip
theorem h1o {n K : Nat} (h : n < 10 ^ (9 * K)) : (dig B32 n).length ≤ K := by
 rw [a0h a0a]
 refine Nat.lt_of_lt_of_le h ?_
 rw [Nat.pow_mul]
 exact Nat.pow_le_pow_left (by decide) K
theorem h1p {k K : Nat} (h : k < 13 * K) : (dig B32 (5 ^ k)).length ≤ K := by
 rw [a0h a0a]
 refine Nat.lt_of_lt_of_le (Nat.pow_lt_pow_right (show 1 < 5 by omega) h) ?_
 rw [Nat.pow_mul]
 exact Nat.pow_le_pow_left (by decide) K
structure m1o (R : Bool × Nat × Nat × Int) : Prop where
 d0 : 0 < R.2.2.1
 ln : (dig B32 R.2.1).length ≤ 1200
 ld : (dig B32 R.2.2.1).length ≤ 1200
 e : -20000 ≤ R.2.2.2 ∧ R.2.2.2 ≤ 20000
theorem d1s {q : Numl} (hd : ∀ x ∈ q.ds, isDg x = true) (hl : q.ds.length ≤ 800) (hp : -6000 ≤ q.pow ∧ q.pow ≤ 6000) : m1o (i0k q) := by
 obtain ⟨K, hK⟩ : ∃ K : Nat, K = 89 := ⟨_, rfl⟩
 obtain ⟨L, hL⟩ : ∃ L : Nat, L = 463 := ⟨_, rfl⟩
 have hS : (dig B32 (a0m q.ds)).length ≤ K := h1o (Nat.lt_of_lt_of_le (g0j _ fun j hj => by rw [a0t hj]; exact (e0u.1 (hd _ (List.getElem_mem hj))).2) (Nat.pow_le_pow_right (by omega) (by omega)))
 have hb : blen (a0m q.ds) ≤ 32 * K := Nat.le_trans (d0e _) (by omega)
 have hz : tz (a0m q.ds) ≤ 32 * K := by
  by_cases h : a0m q.ds = 0
  · rw [h, u0e]; omega
  · have := f0y (m := a0m q.ds) (by omega); omega
 have l1 : (dig B32 1).length ≤ 1 := (a0h a0a 1 1).2 (by decide)
 have l5 : ∀ k, k ≤ 6000 → (dig B32 (5 ^ k)).length ≤ L := fun k hk => h1p (by omega)
 unfold i0k
 by_cases h0 : a0m q.ds = 0
 · rw [if_pos h0]
   exact ⟨by show 0 < 1; omega, by show (dig B32 0).length ≤ _; rw [a0d]; exact Nat.zero_le _, by show (dig B32 1).length ≤ _; omega, by show (-20000 : Int) ≤ 0; omega, by show (0 : Int) ≤ 20000; omega⟩
 · rw [if_neg h0]
   have hmul := b0h a0a (a0m q.ds / 2 ^ tz (a0m q.ds)) (5 ^ q.pow.toNat)
   have hdv := a0k a0a (Nat.div_le_self (a0m q.ds) (2 ^ tz (a0m q.ds)))
   by_cases hp0 : 0 ≤ q.pow
   · rw [if_pos hp0]
     have := l5 q.pow.toNat (by omega)
     exact ⟨by show 0 < 1; omega, by show (dig B32 (_ * _)).length ≤ _; omega, by show (dig B32 1).length ≤ _; omega, by show _ ≤ (_ : Int) + _; omega, by show (_ : Int) + _ ≤ _; omega⟩
   · rw [if_neg hp0]
     have c1 := o0p (-q.pow).toNat (a0m q.ds / 2 ^ tz (a0m q.ds))
     have c2 := a0k a0a c1.1
     have := l5 (c0z (a0m q.ds / 2 ^ tz (a0m q.ds)) (-q.pow).toNat).2 (by omega)
     exact ⟨Nat.pow_pos (by omega), by show (dig B32 (c0z _ _).1).length ≤ _; omega, by show (dig B32 (5 ^ (c0z _ _).2)).length ≤ _; omega, by show _ ≤ (_ : Int) + _; omega, by show (_ : Int) + _ ≤ _; omega⟩
theorem d1t {m : Nat} (h : 0 < m) (g : Bool) (e : Int) (k : Nat) : decM (numP m e) (denP 1 e) k = numX (bare ⟨g, m, e⟩) k := by
 have hb : bare ⟨g, m, e⟩ = ⟨g, m / 2 ^ tz m, e + tz m⟩ := by unfold bare; rw [if_neg (Nat.ne_of_gt h)]
 obtain ⟨t1, t2⟩ := c0t m h
 rw [hb]
 unfold numX
 simp only
 have ho : 0 < m / 2 ^ tz m := Nat.pos_of_ne_zero fun h => by rw [h] at t2; cases t2
 refine b1o (l0v h e) (e0t (by omega) e) (l0v ho _) (e0t (by omega) _) ?_ k
 unfold numP denP
 have e1 : 2 ^ tz m * (2 ^ e.toNat * 2 ^ (-(e + tz m)).toNat) = 2 ^ (e + tz m).toNat * 2 ^ (-e).toNat := by
  rw [← Nat.pow_add, ← Nat.pow_add, ← Nat.pow_add]; congr 1; omega
 calc m * 2 ^ e.toNat * (1 * 2 ^ (-(e + tz m)).toNat) = (2 ^ tz m * (m / 2 ^ tz m)) * (2 ^ e.toNat * 2 ^ (-(e + tz m)).toNat) := by rw [t1]; grind
  _ = (m / 2 ^ tz m) * (2 ^ tz m * (2 ^ e.toNat * 2 ^ (-(e + tz m)).toNat)) := by grind
  _ = _ := by rw [e1]; grind
theorem m1p {f : Fm} {g : Bool} {d : Dc} (hc : d.c = 2) (k : Nat) : decM (numP (f.vl g d).d (wid f.g * (f.vl g d).pow)) (denP 1 (wid f.g * (f.vl g d).pow)) k = numX (f.vr g d).x k ∧ 0 < (f.vl g d).d ∧ (f.vr g d).x.m ≠ 0 := by
 have hs := w0l f g d
 have hm : d.m ≠ 0 := by
  intro h0
  unfold Dc.c at hc
  split at hc
  · omega
  · rename_i k; exact k ⟨hc, h0⟩
 have hx : (f.vr g d).x = bare ⟨g, d.m, wid f.g * d.p⟩ := by unfold Fm.vr; exact if_pos hc
 have hx0 : (f.vr g d).x.m ≠ 0 := by
  rw [hx]
  unfold bare
  rw [if_neg hm]
  have := (c0t d.m (by omega)).2
  exact fun h => by
   have h : d.m / 2 ^ tz d.m = 0 := h
   rw [h] at this; cases this
 have hd : 0 < (f.vl g d).d := by
  rcases Nat.eq_zero_or_pos (f.vl g d).d with h | h
  · rw [h] at hs
    exact absurd (by rw [← hs]; rfl) hx0
  · exact h
 exact ⟨by rw [← hs]; exact d1t hd _ _ k, hd, hx0⟩
end Go.Slip
namespace Go.Slip
open Go.RowKit
theorem w0v {x : Dv} {k : Nat} (h0 : x.m ≠ 0) (_ : (dig B32 x.m).length ≤ 20) (hk : 1 ≤ k) :
 (numX x k).1.length = k ∧ (∀ y ∈ (numX x k).1, 48 ≤ y ∧ y ≤ 57) ∧ 0 < a0m (numX x k).1 ∧ 3 * ((numX x k).2 - 1) < blen x.m + x.e.toNat + 1 ∧ -(((-x.e).toNat : Int) + 1) < 3 * ((numX x k).2 + 1) := by
 have hN : 0 < numP x.m x.e := l0v (by omega) x.e
 have hD : 0 < denP 1 x.e := e0t (by omega) x.e
 obtain ⟨s1, s2, s3, s4, s5, _⟩ := b1n hN hD hk (s := (numX x k).1) (p := (numX x k).2) rfl
 have hP := (m0u hN hD).bd hD
 have bN : blen (numP x.m x.e) ≤ blen x.m + x.e.toNat := by
  refine (a0z _ (blen x.m + x.e.toNat)).2 ?_
  unfold numP
  have h1 := (a0z x.m _).1 (Nat.le_refl _)
  calc x.m * 2 ^ x.e.toNat < 2 ^ blen x.m * 2 ^ x.e.toNat := Nat.mul_lt_mul_of_pos_right h1 (Nat.pow_pos (by omega))
   _ = 2 ^ (blen x.m + x.e.toNat) := (Nat.pow_add _ _ _).symm
 have bD : blen (denP 1 x.e) ≤ (-x.e).toNat + 1 := by
  refine (a0z _ ((-x.e).toNat + 1)).2 ?_
  unfold denP
  rw [Nat.one_mul]
  exact Nat.pow_lt_pow_right (by omega) (by omega)
 have := e0l (k - 1)
 exact ⟨s1, s2, by omega, by omega, by omega⟩
theorem h1q {x : Dv} {k : Nat} (h0 : x.m ≠ 0) (hl : (dig B32 x.m).length ≤ 20) (he : -18000 ≤ x.e ∧ x.e ≤ 18000) (hk : 1 ≤ k) : -7000 ≤ (numX x k).2 ∧ (numX x k).2 ≤ 7000 := by
 have h := w0v h0 hl hk
 have hb := d0e x.m
 omega
end Go.Slip
namespace Go.Proofs.YtgbbhlginbmghaaGreatDoor
open Go.ChangeShapes Go.WideShapes Go.ChangeAt Go.WideMaps Go.WideElems Go.RowKit Go.Slip Go.Joins Go.Deep
theorem v0j {H : Type} {enc : TypeId × Value → H} {P : Program} {W : World} {base : Nat} {r : Reach} {b0 : Nat} {sp : Nat → Bool} {held : Bool} {t : TypeId} {fs : Array Field} {v : Value} {d : DataW H} {p : List MemPlace}
 (hs : P.underlying t = some (.struct fs)) (hone : oneCellFields P fs = true) (hC : P.cellsOf t = fs.size) (hv : Value.okWide P W r b0 t v) (h : DataW.Trod enc P W base sp held t v d p) :
 ∃ (cs : Array Value) (n : Nat), v = .agg cs ∧ cs.size = fs.size ∧ ∀ (j : Nat) (f : Field) (c : Value), fs[j]? = some f → cs[j]? = some c → ∃ y, DataW.trod enc P W base sp held n f.type [c] = some y := by
 obtain ⟨cs, rfl, hsz⟩ := okWide_struct hs hv
 obtain ⟨fuel, hf⟩ := h
 obtain ⟨xs, n, _, _, _, hlen, hg⟩ := DataW.trod_struct hs hf
 refine ⟨cs, n, rfl, hsz.trans hC, fun j f c hj hc => ?_⟩
 obtain ⟨ho, hk⟩ := hone_of hone j f hj
 have hjl : j < fs.size := (Array.getElem?_eq_some_iff.1 hj).1
 have h1 := hg j f hj
 rw [ho, hk] at h1
 have h4 : cs.toList[j]? = some c := by simpa using hc
 have h2 : (cs.toList.drop j).take 1 = [c] := by
  rw [List.drop_eq_getElem_cons (List.getElem?_eq_some_iff.1 h4).1, (List.getElem?_eq_some_iff.1 h4).2]
  rfl
 change DataW.trod enc P W base sp held n f.type ((cs.toList.drop j).take 1) = _ at h1
 rw [h2] at h1
 rw [List.getElem?_eq_getElem (by omega)] at h1
 exact ⟨_, h1⟩
theorem k0f {H : Type} {enc : TypeId × Value → H} {W : World} {n : Nat} {v : Value} {y : DataW H × List MemPlace} (h : DataW.trod enc Tryz.prog W 0 (fun _ => true) true n 3 [v] = some y) : ∃ k, v = .int .i64 k ∧ (Lit.int .i64 k).wf = true := by
 obtain ⟨k, e0, _, w⟩ := DataW.trod_int Tryz.underlying3 h
 simp only [List.cons.injEq, and_true] at e0
 exact ⟨k, e0, w⟩
end Go.Proofs.YtgbbhlginbmghaaGreatDoor
namespace Go.Slip
open Go.RowKit
theorem g0o (s : ByteArray) : a0e (a0b s) = s := by
 unfold a0e a0b
 rw [List.map_map, show (UInt8.ofNat ∘ UInt8.toNat) = id from funext fun x => by simp]
 simp
theorem q0y {s r : ByteArray} (h : a0b s = a0b r) : s = r := by rw [← g0o s, h, g0o]
theorem m1q {s : ByteArray} : s = ByteArray.mk #[] ↔ a0b s = [] := ⟨fun h => by subst h; rfl, fun h => q0y (by rw [h]; rfl)⟩
def Byt (l : List Nat) : Prop := ∀ x ∈ l, x < 256
theorem Byt.of (s : ByteArray) : Byt (a0b s) := o0m s
theorem Byt.drop {l : List Nat} (h : Byt l) (k : Nat) : Byt (l.drop k) := fun x hx => h x (List.mem_of_mem_drop hx)
theorem Byt.take {l : List Nat} (h : Byt l) (k : Nat) : Byt (l.take k) := fun x hx => h x (List.mem_of_mem_take hx)
theorem Byt.append {l m : List Nat} (h : Byt l) (k : Byt m) : Byt (l ++ m) := fun x hx => (List.mem_append.1 hx).elim (h x) (k x)
theorem l0a {l : List Nat} (h : Byt l) (i j : Nat) : (a0e l).extract i j = a0e ((l.take j).drop i) := q0y (by rw [c0y, b0d h, b0d ((h.take j).drop i)])
theorem m1r (xs ys : List Nat) : a0e xs ++ a0e ys = a0e (xs ++ ys) := by
 apply ByteArray.ext
 simp [a0e]
theorem q0z {l : List Nat} (h : Byt l) : a0e l = ByteArray.mk #[] ↔ l = [] := by rw [m1q, b0d h]
section
variable {P : Program} {W : World}
theorem h1r {s r : ByteArray} (h : s.size + r.size ≤ 9223372036854775807) {t : TypeId} {x y : Operand} : (do eqGuard .add t x y (.string s) (.string r); binOp .add t (.string s) (.string r) : Sem Value).run P W = .ok (.string (s ++ r)) W := by
 simp [go_sem, eqGuard, h]
theorem r0a {s r : ByteArray} {b : Bool} (h : (s = r) ↔ b = true) {t : TypeId} {x y : Operand} : (do eqGuard .eql t x y (.string s) (.string r); binOp .eql t (.string s) (.string r) : Sem Value).run P W = .ok (.bool b) W := by
 cases b
 · have : ¬ s = r := fun k => by have := h.1 k; cases this
   have k : ¬ s.toList = r.toList := fun e => this (by rw [Lib.toList_data, Lib.toList_data] at e; rw [← Lib.mk_data s, e, Lib.mk_data])
   simp [go_sem, eqGuard, k]
 · have := h.2 rfl
   subst this
   simp [go_sem, eqGuard]
theorem h1s {s r : ByteArray} {b : Bool} (h : (s = r) ↔ b = false) {t : TypeId} {x y : Operand} : (do eqGuard .neq t x y (.string s) (.string r); binOp .neq t (.string s) (.string r) : Sem Value).run P W = .ok (.bool b) W := by
 cases b
 · have := h.2 rfl
   subst this
   simp [go_sem, eqGuard]
 · have : ¬ s = r := fun k => by have := h.1 k; cases this
   have k : ¬ s.toList = r.toList := fun e => this (by rw [Lib.toList_data, Lib.toList_data] at e; rw [← Lib.mk_data s, e, Lib.mk_data])
   simp [go_sem, eqGuard, k]
theorem d1u {t : TypeId} (ht : P.underlying t = some .string) {s : ByteArray} {i : Int} {j : Nat} (hi : i = j) (hj : j < s.size) : (VO.sx t (.string s) (.int .i64 i)).sem.run P W = .ok (.int .u8 ((dg (a0b s) j : Nat) : Int)) W := by
 subst hi
 rw [← x0z s j hj]
 simp [VO.sem, go_sem, ht, hj]
theorem i0l {t : TypeId} (ht : P.underlying t = some .string) {s : ByteArray} {lo : Option Value} {hi : Option Value} {i j : Nat} (h1 : lo = none ∧ i = 0 ∨ lo = some (.int .i64 i)) (h2 : hi = none ∧ j = s.size ∨ hi = some (.int .i64 j)) (hij : i ≤ j) (hj : j ≤ s.size) : (VO.sl t (.string s) lo hi none).sem.run P W = .ok (.string (s.extract i j)) W := by
 rcases h1 with ⟨rfl, rfl⟩ | rfl <;> rcases h2 with ⟨rfl, rfl⟩ | rfl <;> simp [VO.sem, go_sem, ht, hij, hj]
end
end Go.Slip
namespace Go.Slip
def mayT (c : Nat) : List Nat → Bool × List Nat
 | b :: r => if b = c then (true, r) else (false, b :: r)
 | [] => (false, [])
theorem l0x {l : List Nat} (h : Byt l) (c : Nat) : Byt (mayT c l).2 := by
 cases l with
 | nil => exact h
 | cons b r =>
  show Byt (if b = c then (true, r) else (false, b :: r)).2
  split
  · exact h.drop 1
  · exact h
theorem p1r {l : List Nat} {j : Nat} (hj : j ≤ l.length) (h : ∀ i, i < j → isDg (dg l i) = true) (hs : j < l.length → isDg (dg l j) = false) : l.takeWhile isDg = l.take j ∧ l.dropWhile isDg = l.drop j := by
 have e := List.take_append_drop j l
 have h1 : ∀ x ∈ l.take j, isDg x = true := fun x hx => by
  obtain ⟨i, hi, rfl⟩ := List.mem_iff_getElem.1 hx
  rw [List.getElem_take]
  have := h i (by rw [List.length_take] at hi; omega)
  rwa [a0t (by rw [List.length_take] at hi; omega)] at this
 rcases Nat.lt_or_ge j l.length with h2 | h2
 · have h3 := hs h2
   rw [a0t h2] at h3
   have h4 := c1e h3 (l.drop (j + 1)) h1
   rw [← List.drop_eq_getElem_cons h2, e] at h4
   exact h4
 · have h4 := j1y h1
   rw [List.take_of_length_le h2] at h4 ⊢
   rw [List.drop_of_length_le h2]
   exact h4
end Go.Slip
namespace Go.Proofs.YtgbbhlginbmghaaGreatDoor
open Go.RowKit Go.Slip
theorem uSt : Tryz.prog.underlying 9 = some .string := by kernel_rfl
theorem m1s (l : List Nat) (hb : Byt l) (c u : Nat) (w : World) (U : Bt w u 159 #[.string (a0e l)]) :
 Calls Tryz.prog 102 #[.pointer (some ⟨u, 0, none⟩), .int .u8 (c : Int)] w fun en w' => en = .returned (.bool (mayT c l).1) ∧ Kp [u] w w' ∧ Bt w' u 159 #[.string (a0e (mayT c l).2)] := by
 cases l with
 | nil =>
  have I := Inv.startW w u 159 [.v (.string (a0e []))] [] U True.intro True.intro
  refine a0c [.p 0 0, .v (.int .u8 (c : Int))] I Tryz.func102 ?_
  refine zbin I 9 _ (fun _ _ _ _ _ => r0a (s := a0e []) (r := ⟨#[]⟩) (iff_of_true rfl rfl)) fun Al W I => zret I fun Al W I => ⟨rfl, I.bel, I.boxE 159 _⟩
 | cons b r =>
  have hn : a0e (b :: r) ≠ ByteArray.mk #[] := fun h => by have := (q0z hb).1 h; cases this
  have h0 : dg (a0b (a0e (b :: r))) 0 = b := by rw [b0d hb]; rfl
  have hz : 0 < (a0e (b :: r)).size := by rw [a0p]; exact Nat.succ_pos _
  have hd : (a0e (b :: r)).extract 1 (a0e (b :: r)).size = a0e r := by rw [l0a hb, a0p, List.take_length]; rfl
  rw [show mayT c (b :: r) = if b = c then (true, r) else (false, b :: r) from rfl]
  generalize hs : a0e (b :: r) = s at *
  have I := Inv.startW w u 159 [.v (.string s)] [] U True.intro True.intro
  refine a0c [.p 0 0, .v (.int .u8 (c : Int))] I Tryz.func102 ?_
  refine zbin I 9 _ (fun _ _ _ _ _ => r0a (s := s) (r := ⟨#[]⟩) (b := false) (iff_of_false hn Bool.false_ne_true)) fun Al W I => zx I 15 (fun _ => .int .u8 (b : Int)) (fun Al W I => (by rw [← h0]; exact d1u uSt rfl hz)) fun Al W I => ?_
  rcases bTF ((b : Int) != (c : Int)) with f17 | f17
  · refine zb I 17 ((b : Int) != (c : Int)) (true) (f17) fun Al W I => zret I (v := fun Al => .bool false) fun Al W I => ?_
    first | (rw [if_neg (fun h => bne_iff_ne.1 f17 (by rw [h]))]; exact ⟨rfl, I.bel, hs ▸ I.boxE 159 _⟩) | (rw [if_pos (by have h : (b : Int) = c := (by simpa using f17); omega)]; exact ⟨rfl, I.bel, I.boxE 159 _⟩)
  refine zb I 17 ((b : Int) != (c : Int)) (false) (f17) fun Al W I => zx I 24 (fun _ => .string (a0e r)) (fun Al W I => (by rw [← hd]; exact i0l uSt (.inr rfl) (.inl ⟨rfl, rfl⟩) hz (Nat.le_refl _))) fun Al W I => zret I (v := fun Al => .bool true) fun Al W I => ?_
  (rw [if_pos (by have h : (b : Int) = c := (by simpa using f17); omega)]; exact ⟨rfl, I.bel, I.boxE 159 _⟩)
theorem y0y (l : List Nat) (hb : Byt l) (hl : l.length ≤ 1000000000) (u : Nat) (w : World) (U : Bt w u 159 #[.string (a0e l)]) :
 Calls Tryz.prog 103 #[.pointer (some ⟨u, 0, none⟩)] w fun en w' => en = .returned (.string (a0e (l.takeWhile isDg))) ∧ Kp [u] w w' ∧ Bt w' u 159 #[.string (a0e (l.dropWhile isDg))] := by
 have hg : a0b (a0e l) = l := b0d hb
 have hz : (a0e l).size = l.length := a0p l
 have ht := fun j => l0a hb 0 j
 have hd : ∀ j, (a0e l).extract j (a0e l).size = a0e (l.drop j) := fun j => by rw [l0a hb, a0p, List.take_length]
 have hT := fun (j : Nat) h1 h2 h3 => p1r (l := l) (j := j) h1 h2 h3
 generalize a0e l = s at *
 have I := Inv.startW w u 159 [.v (.string s)] [] U True.intro True.intro
 refine a0c [.p 0 0] I Tryz.func103 ?_
 refine h0c I (fun gk fr bx gs => ∃ (U900 : Nat → Value) (j : Nat), fr = (.p 0 0 :: .v undef :: .v (Go.Value.string (ByteArray.mk #[])) :: .v (.int .i64 (j : Int)) :: .v undef :: sw U900 5 43 [] : List SV) ∧ bx = [⟨159, [.v (.string s)], false⟩] ∧ gs = [] ∧ (j ≤ l.length) ∧ (∀ i, i < j → isDg (dg l i) = true) ∧ (gk + j = l.length)) l.length (fun Al W U I => ⟨_, ⟨U, 0, rfl, rfl, rfl, (Nat.zero_le _), (fun i hi => absurd hi (Nat.not_lt_zero i)), (Nat.add_zero _)⟩, I.pick []⟩) ?_
 rintro J0 gk0 _ _ _ ⟨U900, j, rfl, rfl, rfl, hj, hall, hgk⟩ hJ0 Al W I
 rcases bTF (decide ((j : Int) < (s.size : Int))) with f11 | f11
 · refine zb I 11 (decide ((j : Int) < (s.size : Int))) (true) (f11) fun Al W I => zx I 18 (fun _ => .int .u8 ((dg l j : Nat) : Int)) (fun Al W I => (by rw [← hg]; exact d1u uSt rfl (by have := oTr f11; omega))) fun Al W I => ?_
   rcases bTF (decide (((dg l j : Nat) : Int) ≥ 48)) with f19 | f19
   · refine zb I 19 (decide (((dg l j : Nat) : Int) ≥ 48)) (true) (f19) fun Al W I => zx I 27 (fun _ => .int .u8 ((dg l j : Nat) : Int)) (fun Al W I => (by rw [← hg]; exact d1u uSt rfl (by have := oTr f11; omega))) fun Al W I => ?_
     rcases bTF (decide (((dg l j : Nat) : Int) ≤ 57)) with f28 | f28
     · refine zb I 28 (decide (((dg l j : Nat) : Int) ≤ 57)) (true) (f28) fun Al W I => zi I 31 .i64 ((j : Int) + 1) ((((j + 1 : Nat) : Int))) ((by have := oTr f11; exact iwo)) fun Al W I => a0j I J0 fun Al W U I => hJ0 (gk0 - 1) _ _ _ _ _ ((by have := oTr f11; omega)) ⟨U, j + 1, rfl, rfl, rfl, (by have := oTr f11; omega), (fun i hi => by have := oTr f19; have := oTr f28; exact (Nat.lt_or_ge i j).elim (fun h => hall i h) (fun h => by rw [show i = j by omega]; exact m1a (by omega))), (by have := oTr f11; omega)⟩ (I.pick [])
     refine zb I 28 (decide (((dg l j : Nat) : Int) ≤ 57)) (false) (f28) fun Al W I => zx I 37 (fun _ => .string (s.extract 0 j)) (fun Al W I => (i0l uSt (.inl ⟨rfl, rfl⟩) (.inr rfl) (Nat.zero_le _) (by omega))) fun Al W I => zx I 44 (fun _ => .string (s.extract j s.size)) (fun Al W I => (i0l uSt (.inr rfl) (.inl ⟨rfl, rfl⟩) (by omega) (Nat.le_refl _))) fun Al W I => ?_
     have hst : j < l.length → isDg (dg l j) = false := fun hjl => by ((have := oFa f28; unfold isDg; rw [decide_eq_false (p := dg l j ≤ 57) (by omega), Bool.and_false]))
     obtain ⟨e1, e2⟩ := hT j hj hall hst
     rw [e1, e2, ← hd j]
     exact zret I (v := fun Al => .string (s.extract 0 j)) fun Al W I => ⟨by rw [ht j]; rfl, I.bel, I.boxE 159 _⟩
   refine zb I 19 (decide (((dg l j : Nat) : Int) ≥ 48)) (false) (f19) fun Al W I => zx I 37 (fun _ => .string (s.extract 0 j)) (fun Al W I => (i0l uSt (.inl ⟨rfl, rfl⟩) (.inr rfl) (Nat.zero_le _) (by omega))) fun Al W I => zx I 44 (fun _ => .string (s.extract j s.size)) (fun Al W I => (i0l uSt (.inr rfl) (.inl ⟨rfl, rfl⟩) (by omega) (Nat.le_refl _))) fun Al W I => ?_
   have hst : j < l.length → isDg (dg l j) = false := fun hjl => by ((have := oFa f19; unfold isDg; rw [decide_eq_false (by omega)]; rfl))
   obtain ⟨e1, e2⟩ := hT j hj hall hst
   rw [e1, e2, ← hd j]
   exact zret I (v := fun Al => .string (s.extract 0 j)) fun Al W I => ⟨by rw [ht j]; rfl, I.bel, I.boxE 159 _⟩
 refine zb I 11 (decide ((j : Int) < (s.size : Int))) (false) (f11) fun Al W I => zx I 37 (fun _ => .string (s.extract 0 j)) (fun Al W I => (i0l uSt (.inl ⟨rfl, rfl⟩) (.inr rfl) (Nat.zero_le _) (by omega))) fun Al W I => zx I 44 (fun _ => .string (s.extract j s.size)) (fun Al W I => (i0l uSt (.inr rfl) (.inl ⟨rfl, rfl⟩) (by omega) (Nat.le_refl _))) fun Al W I => ?_
 have hst : j < l.length → isDg (dg l j) = false := fun hjl => by ((have := oFa f11; exfalso; omega))
 obtain ⟨e1, e2⟩ := hT j hj hall hst
 rw [e1, e2, ← hd j]
 exact zret I (v := fun Al => .string (s.extract 0 j)) fun Al W I => ⟨by rw [ht j]; rfl, I.bel, I.boxE 159 _⟩
end Go.Proofs.YtgbbhlginbmghaaGreatDoor
namespace Go.Proofs.YtgbbhlginbmghaaGreatDoor
def v0k : Go.Shelf.Ren := ⟨fun | 161 => 44 | 231 => 105 | 227 => 106 | 233 => 107 | 235 => 108 | 228 => 161 | 197 => 162 | 151 => 163 | 260 => 227 | 152 => 228 | 137 => 264 | 119 => 265 | 224 => 266 | 225 => 267 | 217 => 283 | 266 => 285 | n => n, fun | 9 => 9 | 4 => 4 | 3 => 3 | 5 => 5 | 117 => 171 | 116 => 170 | 0 => 0 | 124 => 174 | 105 => 222 | 21 => 21 | 119 => 280 | 46 => 167 | 139 => 283 | 138 => 282 | n => n, fun | 3 => 3 | 4 => 4 | n => n⟩
theorem m1t : Go.Proofs.Lays.n161 Tryz.prog v0k := by constructor <;> first | (intros; kernel_rfl) | (constructor <;> (intros; kernel_rfl))
def v0l : Go.Shelf.Ren := ⟨fun | 172 => 104 | 244 => 159 | 245 => 160 | 247 => 222 | 279 => 223 | 280 => 224 | 281 => 225 | 282 => 226 | 287 => 261 | 316 => 262 | 171 => 69 | 205 => 263 | 321 => 281 | 322 => 282 | 243 => 138 | 246 => 175 | 283 => 232 | 284 => 233 | 285 => 234 | 286 => 235 | 129 => 269 | 317 => 268 | 318 => 270 | 319 => 271 | 320 => 272 | 337 => 164 | 338 => 284 | n => n, fun | 9 => 9 | 3 => 3 | 75 => 163 | 76 => 164 | 4 => 4 | 5 => 5 | 167 => 244 | 37 => 44 | 0 => 0 | 85 => 245 | 2 => 2 | 168 => 247 | 53 => 166 | 175 => 274 | 46 => 167 | 210 => 278 | 127 => 299 | 145 => 302 | 143 => 300 | 21 => 21 | 171 => 253 | 173 => 256 | 212 => 289 | 51 => 139 | 20 => 20 | 213 => 290 | 232 => 251 | 233 => 303 | 80 => 161 | n => n, fun | 15 => 1 | 16 => 2 | 17 => 5 | 18 => 0 | 19 => 7 | n => n⟩
theorem m1u : Go.Proofs.Lays.n172 Tryz.prog v0l := by constructor <;> first | (intros; kernel_rfl) | (constructor <;> (intros; kernel_rfl))
def t0f : Go.Shelf.Ren := ⟨fun | 171 => 69 | 243 => 138 | 246 => 175 | 283 => 232 | 284 => 233 | 285 => 234 | 286 => 235 | 129 => 269 | 317 => 268 | 318 => 270 | 319 => 271 | 320 => 272 | 337 => 164 | 338 => 284 | n => n, fun | 3 => 3 | 9 => 9 | 2 => 2 | 4 => 4 | 171 => 253 | 0 => 0 | 53 => 166 | 37 => 44 | 5 => 5 | 173 => 256 | 212 => 289 | 51 => 139 | 20 => 20 | 213 => 290 | 46 => 167 | 232 => 251 | 233 => 303 | n => n, fun | 17 => 5 | 18 => 0 | 19 => 7 | n => n⟩
theorem h1t : Go.Proofs.LaysM.n171 Tryz.prog t0f := by constructor <;> first | (intros; kernel_rfl) | (constructor <;> (intros; kernel_rfl))
end Go.Proofs.YtgbbhlginbmghaaGreatDoor
namespace Go.Slip
open Go.RowKit
theorem t0g (d : Nat) (h : d < 10) : (UInt8.ofNat (48 + d)).toNat = d + 48 := by rw [UInt8.toNat_ofNat', Nat.mod_eq_of_lt (by omega)]; omega
theorem p0a (u : Nat) : (Lib.decDigits u).map UInt8.toNat = a0y u := by
 have hz : ∀ v, 0 < v → a0y v = (dig 10 v).reverse.map (· + 48) := fun v h => by unfold a0y; rw [if_neg (by omega)]
 induction u using Nat.strongRecOn with
 | _ u ih =>
  rw [Lib.decDigits]
  by_cases h : u < 10
  · rw [dif_pos h, List.map_cons, List.map_nil, t0g u h]
    by_cases h0 : u = 0
    · subst h0; rfl
    · rw [hz u (by omega), d0x (B := 10) (by omega) (by omega), Nat.mod_eq_of_lt h, Nat.div_eq_of_lt h, a0d]; rfl
  · rw [dif_neg h, List.map_append, ih (u / 10) (by omega), List.map_cons, List.map_nil, t0g _ (Nat.mod_lt _ (by omega)), hz u (by omega), hz (u / 10) (by omega), d0x (B := 10) (n := u) (by omega) (by omega)]
    simp
theorem y0z (n : Int) : (⟨(Lib.itoa n).toArray⟩ : ByteArray) = a0e (n0x n) := by
 apply q0y
 have hb : Byt (n0x n) := by
  intro x hx
  unfold n0x at hx
  split at hx
  · rcases List.mem_cons.1 hx with rfl | hx
    · omega
    · have := j0q _ x hx; omega
  · have := j0q _ x hx; omega
 rw [b0d hb]
 unfold a0b Lib.itoa n0x
 split
 · rw [show (-n).toNat = n.natAbs by omega, ← p0a]; rfl
 · rw [← p0a]
theorem p0b : ∀ (l : List UInt8) (a : Nat), (∀ y ∈ l, isDg y.toNat = true) → Lib.decFrom a l = some ((l.map UInt8.toNat).foldl (fun a b => 10 * a + (b - 48)) a)
 | [], a, _ => rfl
 | b :: r, a, h => by
  have h1 := e0u.1 (h b List.mem_cons_self)
  have h2 := p0b r (a * 10 + (b.toNat - 48)) fun y hy => h y (List.mem_cons_of_mem b hy)
  rw [Lib.decFrom]
  unfold Lib.digitVal
  rw [if_pos h1]
  simp only
  rw [h2, List.map_cons, List.foldl_cons, Nat.mul_comm a 10]
theorem h1u {m : List UInt8} (hd : ∀ y ∈ m, isDg y.toNat = true) (h2 : m ≠ []) : Lib.atoi m = some ((a0m (m.map UInt8.toNat) : Nat) : Int) := by
 cases m with
 | nil => exact absurd rfl h2
 | cons b r =>
  have hb1 := e0u.1 (hd b List.mem_cons_self)
  have hn : ∀ k : UInt8, k.toNat < 48 → (b == k) = false := fun k hk => bFn fun h => by subst h; omega
  unfold Lib.atoi
  simp only [hn 45 (by decide), hn 43 (by decide), Bool.false_eq_true, if_false]
  unfold Lib.decNat
  rw [if_neg (by simp), p0b _ _ hd]
  rfl
theorem m1v {x : List Nat} (hb : Byt x) (h1 : ∀ y ∈ x, isDg y = true) (h2 : x ≠ []) : Lib.atoi (a0e x).data.toList = some ((a0m x : Nat) : Int) := by
 have e : (a0e x).data.toList.map UInt8.toNat = x := b0d hb
 have k := h1u (m := (a0e x).data.toList) (fun y hy => h1 _ (by rw [← e]; exact List.mem_map_of_mem hy)) (fun h => h2 (by rw [← e, h]; rfl))
 rw [e] at k
 exact k
theorem d1v {l : List Nat} : ∀ x ∈ l.dropWhile (· == 48), x ∈ l := fun _ hx => List.dropWhile_sublist _ |>.subset hx
theorem z0a (l : List Nat) (hb : Byt l) : (⟨(Lib.trimLeftB (a0e l).data.toList 48).toArray⟩ : ByteArray) = a0e (l.dropWhile (· == 48)) := by
 apply q0y
 rw [b0d fun x hx => hb x (d1v x hx)]
 have e : (a0e l).data.toList.map UInt8.toNat = l := b0d hb
 have key : ∀ m : List UInt8, (m.dropWhile (· == 48)).map UInt8.toNat = (m.map UInt8.toNat).dropWhile (· == 48) := by
  intro m
  induction m with
  | nil => rfl
  | cons b r ih =>
   rw [List.map_cons, List.dropWhile_cons, List.dropWhile_cons]
   by_cases h : b = 48
   · subst h; simpa using ih
   · have h1 : (b == 48) = false := bFn h
     have h2 : (b.toNat == 48) = false := bFn fun k => h (UInt8.toNat_inj.1 (by rw [k]; rfl))
     rw [h1, h2]; rfl
 have := key (a0e l).data.toList
 rw [e] at this
 exact this
theorem z0b (l : List Nat) : a0m (l.dropWhile (· == 48)) = a0m l := by
 induction l with
 | nil => rfl
 | cons b r ih =>
  rw [List.dropWhile_cons]
  split
  · rename_i h
    rw [ih, beq_iff_eq.1 h]
    rfl
  · rfl
end Go.Slip
namespace Go.Proofs.YtgbbhlginbmghaaGreatDoor
open Go.RowKit Go.Slip
def PowW (w : World) : Prop := Lib.TabIs Tryz.prog w "internal/strconv.uint64pow10" .u64 Lib.pow10Tab ∧ 5 < w.heap.size
theorem PowW.same {w w' : World} (h : PowW w) (hb : w'.heap[5]? = w.heap[5]?) (hs : w.heap.size ≤ w'.heap.size) : PowW w' := by
 refine ⟨?_, Nat.lt_of_lt_of_le h.2 hs⟩
 have h1 := h.1
 unfold Lib.TabIs World.var? at h1 ⊢
 rw [show Tryz.prog.globalNamed "internal/strconv.uint64pow10" = some 5 by kernel_rfl] at h1 ⊢
 simp only [Option.bind_some] at h1 ⊢
 rw [hb]; exact h1
def powF : PF := ⟨PowW, fun a => 5 = a, fun _ _ h hb hs => h.same (hb _ h.2 rfl) hs, fun _ _ h hf => hf ▸ h.2⟩
theorem PowW.past {w w' : World} (h : PowW w) (hb : Below w.heap.size w w') : PowW w' := h.same (hb.block _ h.2) hb.size
theorem h1v (x : List Nat) (h1 : ∀ y ∈ x, isDg y = true) (h2 : x ≠ []) (h3 : x.length ≤ 5) (w : World) : Calls Tryz.prog 104 #[.string (a0e x)] w fun en w' => en = .returned (.tuple #[.int .i64 ((a0m x : Nat) : Int), .nilIface]) ∧ Below w.heap.size w w' := by
 have hb : Byt x := fun y hy => by have := e0u.1 (h1 y hy); omega
 refine (Any.strconv_Atoi m1u (a0e x) _ (by rw [a0p]; omega) (m1v hb h1 h2) w).mono ?_
 rintro e w' ⟨rfl, t, rfl⟩
 exact ⟨rfl, e0r (Nat.le_refl _) _ _⟩
theorem h1w (n : Int) (h : -9223372036854775808 ≤ n ∧ n ≤ 9223372036854775807) (w : World) (hT : PowW w) : Calls Tryz.prog 69 #[.int .i64 n] w fun en w' => en = .returned (.string (a0e (n0x n))) ∧ Below w.heap.size w w' := by
 refine (Any.strconv_Itoa h1t n h.1 h.2 w hT.1).mono ?_
 rintro e w' ⟨rfl, k, os, rfl⟩
 refine ⟨by rw [y0z], ?_⟩
 exact ⟨rfl, rfl, rfl, by simp [Sort.grow], fun b hb => by simp [Sort.grow]; rw [Array.getElem?_append_left hb]⟩
theorem h1x (l : List Nat) (hb : Byt l) (w : World) : Calls Tryz.prog 44 #[.string (a0e l), .string ⟨#[48]⟩] w fun en w' => en = .returned (.string (a0e (l.dropWhile (· == 48)))) ∧ Below w.heap.size w w' := by
 refine (Any.strings_TrimLeft_one m1t (a0e l) 48 (by decide) w).mono ?_
 rintro e w' ⟨rfl, rfl⟩
 exact ⟨by rw [z0a l hb], Below.refl _ _⟩
end Go.Proofs.YtgbbhlginbmghaaGreatDoor
namespace Go.Proofs.YtgbbhlginbmghaaGreatDoor
open Go.ChangeShapes Go.WideShapes Go.ChangeAt Go.RowKit Go.Slip
def r0b : List (String × DataW Unit) := [("math/bits.deBruijn32tab", Rows.laid_math_bits_deBruijn32tab), ("math/bits.deBruijn64tab", Rows.laid_math_bits_deBruijn64tab), ("internal/strconv.uint64pow10", Rows.laid_internal_strconv_uint64pow10), ("unicode/utf8.acceptRanges", Rows.laid_unicode_utf8_acceptRanges), ("strconv.ErrRange", Rows.laid_strconv_ErrRange), ("strconv.ErrSyntax", Rows.laid_strconv_ErrSyntax), ("unicode/utf8.first", Rows.laid_unicode_utf8_first)]
theorem d1w : r0b.filter (fun x => x.1 == "math/bits.deBruijn32tab") = [("math/bits.deBruijn32tab", Rows.laid_math_bits_deBruijn32tab)] := by kernel_rfl
theorem d1x : r0b.filter (fun x => x.1 == "internal/strconv.uint64pow10") = [("internal/strconv.uint64pow10", Lib.tabData .u64 Lib.pow10Tab)] := by kernel_rfl
theorem h1y {W : World} (h : laidMetH Tryz.prog r0b W) : TabW W ∧ PowW W := by
 have h1 := h.filter (fun x => x.1 == "math/bits.deBruijn32tab")
 have h2 := h.filter (fun x => x.1 == "internal/strconv.uint64pow10")
 rw [d1w] at h1
 rw [d1x, MakeChecks.laidMetH_plain _ _ _ (by kernel_rfl)] at h2
 have hg : Tryz.prog.globalNamed "internal/strconv.uint64pow10" = some 5 := by kernel_rfl
 have h3 := Lib.tabIs_of_head (t := 289) (e := 166) (n := 20) hg (by kernel_rfl) (by kernel_rfl) (by kernel_rfl) (by kernel_rfl) (by kernel_rfl) h2
 exact ⟨u0g h1, h3, World.block_lt_of_cell? W _ (h3.cell hg 0 (by decide))⟩
end Go.Proofs.YtgbbhlginbmghaaGreatDoor
namespace Go.Slip
end Go.Slip
namespace Go.Proofs.YtgbbhlginbmghaaGreatDoor
open Go.RowKit Go.Slip
def v0m (n cls : Int) (a : Din) : Int := if IsFm n then c0b (fmt n) cls a else 6
theorem z0c (n : Int) (cls : Int) (a : Din) (w : World) (ha : InD w a) (hT : TabW w) :
 Calls Tryz.prog 121 #[.int .i64 n, .agg #[.int .i64 cls, .bool a.g, .slice a.p a.xs.length a.c, .int .i64 a.e]] w (t0c w (v0m n cls a) (o0z (fmt n) cls a)) := by
 unfold v0m
 by_cases hn : IsFm n
 · rw [if_pos hn]; exact d1n n cls a w hn ha hT
 · rw [if_neg hn]
   have HF := fun W => lHd (h0k n hn W)
   generalize o0z (fmt n) cls a = s
   have I := Inv.start w [] True.intro
   refine a0c [.v (.int .i64 n), .v (.agg #[.int .i64 cls, .bool a.g, .slice a.p a.xs.length a.c, .int .i64 a.e])] I Tryz.func121 ?_
   refine zq I (fun Al W I => (HF W).out) fun Al W I => zret I fun Al W I => c0i (r := 6) rfl (by decide) rfl I.below
theorem z0d (f : Fm) {k : Nat} (h : k ≠ 2) (g : Bool) (d d' : Dv) : f.encP k g d = f.encP k g d' := by
 unfold Fm.encP
 rw [if_neg h, if_neg h]
theorem v0n {f : Fm} (G : b0z f) {neg : Bool} {e x : Nat} (he : e < 2 ^ f.E) (hx : x < 2 ^ f.F) : a0s f (a0e (f.str neg e x)) = f.pat neg e x := by
 have ho : f.ord = 1 → f.size % 2 = 0 := fun _ => by have := G.sz; omega
 unfold a0s
 rw [b0d (by unfold Fm.str; exact o0t (by rw [d0s]; exact ho) (s0g _ _)), o1t G he hx]
theorem r0c {r : Nat} (h : (dig B32 r).length ≤ 1200) : a0w (dig B32 r) = 0 := by rw [Go.Slip.o0d, if_neg (by omega)]
structure Is (a : Din) (v : Vl) : Prop where
 g : a.g = v.neg
 xs : a.xs = dig B32 v.d
 e : a.e = v.pow
theorem Is.num {a : Din} {v : Vl} (h : Is a v) (f : Fm) : numD f a = bare ⟨v.neg, v.d, wid f.g * v.pow⟩ := by
 unfold numD
 rw [h.g, h.xs, h.e, b0l a0a]
def dinV (v : Vl) (p : OA) (c : Nat) : Din := ⟨v.neg, p, c, dig B32 v.d, v.pow⟩
theorem m1w {v : Vl} {p : OA} {c base : Nat} {w : World} (h : Own w base .u32 139 p c (dig B32 v.d)) (hl : (dig B32 v.d).length ≤ 1000) : InD w (dinV v p c) :=
 ⟨h.rd, h.le_cap, by show (dig B32 v.d).length ≤ _; omega, b0w a0a _⟩
end Go.Proofs.YtgbbhlginbmghaaGreatDoor
