/- codec: split: the parts of a pattern. -/
import Derived.Deep.LoopGhost
import Derived.Lib.Strings
import Derived.Lib.Slices
import Derived.Lib.Small
import Derived.Lib.Walk
import Derived.Lib.BitFns
import Derived.Outline
import Derived.Deep.RegionHeld3
import Derived.Lib.MinMax
import Derived.Shelf.Strings.Trim
import Derived.Shelf.Strconv.Atoi
import Derived.Shelf.LaysM
import Derived.Shelf.Strconv.Itoa3
import Derived.Test.YtgbbhlginbmghaaGreatDoorProg
import Derived.LaidSub
import Derived.Lib.LaidTab
import Derived.Test.YtgbbhlginbmghaaGreatDoorMCc1
import Derived.Test.YtgbbhlginbmghaaGreatDoorMCc2
import Derived.Test.YtgbbhlginbmghaaGreatDoorMCc3
import Derived.Test.YtgbbhlginbmghaaGreatDoorMCc4
import Derived.Test.YtgbbhlginbmghaaGreatDoorMCc5
set_option maxHeartbeats 8000000
set_option maxRecDepth 100000
namespace Go.Slip
theorem v0a (L : List Nat) (i : Nat) (h : i < L.length) : be (L.take i) * 2 ^ 8 + dg L i = be (L.take (i + 1)) := by
 rw [← List.take_append_getElem h, e1s, a0x h]
theorem o0s (n : Nat) : ((n : Int) == 1) = (n == 1) := by
 rw [Bool.eq_iff_iff, beq_iff_eq, beq_iff_eq]; omega
theorem b1r (L : List Nat) (i : Nat) (h : ∀ c ∈ L, c < 256) (hl : L.length ≤ 10) : be (L.take i) < 2 ^ 80 := by
 have h1 := s1i (L.take i) (fun c hc => h c (List.mem_of_mem_take hc))
 refine Nat.lt_of_lt_of_le h1 (Nat.pow_le_pow_right (by omega) ?_)
 have : (L.take i).length ≤ L.length := by rw [List.length_take]; omega
 omega
theorem u1m {L : List Nat} (h : ∀ c ∈ L, c < 256) (i : Nat) : dg L i < 256 := by
 unfold dg
 cases e : L[i]? with
 | none => simp
 | some x => exact h x (List.mem_of_getElem? e)
theorem be0 (L : List Nat) : be (L.take 0) = 0 := by rw [List.take_zero]; rfl
end Go.Slip
namespace Go.Proofs.YtgbbhlginbmghaaGreatDoor
open Go.RowKit Go.Slip
def a0q (f : Fm) (s : ByteArray) : Nat := be (ordL f.ord (a0a s))
def t1c (w : World) (g : Bool) (e x : Nat) (en : Ending) (w' : World) : Prop :=
 ∃ p c, en = .returned (.agg #[.bool g, .int .i64 (e : Int), .slice p (dig B32 x).length c]) ∧ Own w' w.heap.size .u32 139 p c (dig B32 x) ∧ Below w.heap.size w w'
theorem p1o (L : List Nat) (w : World) (b : Nat) : Own w b .u32 139 none 0 (dig B32 (be (L.take 0))) := by rw [be0, a0e]; exact Own.nil _ _ _ _
theorem f1z (f : Fm) (s : ByteArray) (w : World) (G : c0g f) (hs : s.size = f.size) :
 Calls Tryz.prog 132 #[(fV f), .string s] w (t1c w (f.neg (a0q f s)) (f.exp (a0q f s)) (f.frac (a0q f s))) := by
 have z1 := G.sz
 have z2 := G.e2
 have z3 := G.f2
 have z4 := G.bits
 have hl0 : (a0a s).length = f.size := by rw [b0e, hs]
 have hlL : (ordL f.ord (a0a s)).length = f.size := by rw [c0i, hl0]
 have hbL := q0h (o := f.ord) (xs := a0a s) (fun _ => by omega) (p0z s)
 have hord := fun (W : World) (base : Nat) (p : OA) (c : Nat) h1 => f1l f base p s.size c (a0a s) W G h1 (b0e s).symm hl0
 unfold a0q
 generalize ordL f.ord (a0a s) = L at *
 have hNlt : be L < 2 ^ (8 * f.size) := by rw [← hlL]; exact s1i L hbL
 have hst := fun i h => v0a L i h
 have hlt := fun i => b1r L i hbL (by omega)
 have hdg := u1m hbL
 have hfin : be (L.take f.size) = be L := by rw [List.take_of_length_le (by omega)]
 have hTlt : be L / 2 ^ f.F < 2 ^ (f.E + 1) := by
  rw [Nat.div_lt_iff_lt_mul (Nat.pow_pos (by omega)), ← Nat.pow_add, show f.E + 1 + f.F = 8 * f.size by omega]
  exact hNlt
 have hT16 : be L / 2 ^ f.F < 65536 := Nat.lt_of_lt_of_le hTlt (by rw [show (65536 : Nat) = 2 ^ 16 from rfl]; exact Nat.pow_le_pow_right (by omega) (by omega))
 have hN80 : be L < 2 ^ 80 := Nat.lt_of_lt_of_le hNlt (Nat.pow_le_pow_right (by omega) (by omega))
 have ef : f.frac (be L) = be L - be L / 2 ^ f.F * 2 ^ f.F := by
  unfold Fm.frac
  have := Nat.div_add_mod (be L) (2 ^ f.F)
  rw [Nat.mul_comm] at this
  omega
 have hle : be L / 2 ^ f.F * 2 ^ f.F ≤ be L := Nat.div_mul_le_self _ _
 have hlfr : (dig B32 (be L / 2 ^ f.F * 2 ^ f.F)).length ≤ 3 := a0u (Nat.lt_of_le_of_lt hle hN80) (by omega)
 rw [ef]
 unfold Fm.neg Fm.exp
 obtain ⟨T, hT⟩ : ∃ T, be L / 2 ^ f.F = T := ⟨_, rfl⟩
 rw [hT] at hTlt hT16 hle hlfr ⊢
 have hTl : (dig B32 T).length ≤ 1 := a0u (n := 32) (by omega) (by omega)
 have hT0 : (dig B32 T).length = 0 ↔ T = 0 := a0h a0b T
 have hTd : 0 < (dig B32 T).length → dg (dig B32 T) 0 = T := fun h => by
  have h0 : 0 < T := by omega
  rw [f1r a0b h0 (by unfold B32; omega)]
  rfl
 have hla := fun i => a0u (hlt i) (k := 3) (by omega)
 have hlN := a0u hN80 (k := 3) (by omega)
 clear hNlt hlt hN80 ef hbL hl0
 have hsh := r0v (E := f.E) (by omega)
 have h0T : 0 < 2 ^ f.E := Nat.pow_pos (by omega)
 have h0T2 : 2 ^ f.E ≤ 2 ^ 15 := Nat.pow_le_pow_right (by omega) (by omega)
 have hand := fun h => n0w (x := T) (E := f.E) h (by omega)
 have hshr := d1y (x := T) (E := f.E) (by omega)
 have hand0 := fun h => n0w (x := 0) (E := f.E) h (by omega)
 have hshr0 := d1y (x := 0) (E := f.E) (by omega)
 generalize hP : 2 ^ f.E = P at *
 have HAND := lHd hand
 have HSHR := lHd hshr
 have HAND0 := lHd hand0
 have HSHR0 := lHd hshr0
 have HSH := lHd hsh
 have HFIN := lHd hfin
 have HTT := lHd hT
 clear hand hshr hand0 hshr0 hsh hfin hT
 have hs0 : 0 < (a0a s).length := by rw [b0e]; omega
 have I := Inv.start w [] True.intro
 refine a0c [.v ((fV f)), .v (.string s)] I Tryz.func132 ?_
 refine zby I 12 uStr u0v f1q s fun Al W p12 c12 I => zsp (g := wrF w.heap.size .u8 p12 L) I [] (blk p12) (f1k f) (fun Al W I => hord W w.heap.size p12 c12 I.fa.1) (fun Al W I => ⟨⟨hs0, rfl⟩, I.fa.1.from_ hs0, True.intro⟩) (fun _ h => ⟨hs0, h.2⟩) fun Al W I => ?_
 have I := I.own (p1o L _ w.heap.size) (Nat.le_refl _)
 refine h0u I (fun gk fr bx gs => ∃ (U900 : Nat → Value) (i : Nat) (p6 : OA) (c6 : Nat) (n6 : Nat), fr = (.v ((fV f)) :: .v (.string s) :: .p 0 0 :: .v undef :: .p 1 0 :: .v (.slice p12 s.size c12) :: .v (.slice p6 n6 c6) :: .v undef :: .v (U900 8) :: su 2 (sw U900 11 6 (.v (.slice p12 s.size c12) :: .v (.int .i64 (s.size : Int)) :: .v (.int .i64 (i : Int)) :: sw U900 20 16 (.v undef :: sw U900 37 22 []))) : List SV) ∧ bx = [⟨98, [.v (.int .i64 (f.size : Int)), .v (.int .i64 (f.E : Int)), .v (.int .i64 (f.F : Int)), .v (.int .i64 f.g.rad), .v (.int .i64 f.g.digs), .v (.int .i64 f.g.lo), .v (.int .i64 f.g.hi), .v (.bool f.g.grad), .v (.bool f.hid), .v (.bool f.inf), .v (.bool f.res), .v (.func (.func (ordF f)) #[] #[])], false⟩, ⟨197, [.v (.bool false), .v (.int .i64 0), .v (.slice none 0 0)], false⟩] ∧ gs = [ownF w.heap.size .u32 139 p6 c6 (dig B32 (be (L.take i))), wrF w.heap.size .u8 p12 L] ∧ (n6 = (dig B32 (be (L.take i))).length) ∧ (gk + i = f.size)) f.size (fun Al W U I => ⟨_, ⟨U, 0, none, 0, 0, rfl, rfl, rfl, by rw [be0, a0e]; rfl, (by omega)⟩, I.pick [0, 1]⟩) ?_
 rintro J0 gk0 _ _ _ ⟨U900, i, p6, c6, n6, rfl, rfl, rfl, hn6, hgk⟩ hJ0 Al W I
 rcases bTF (decide ((i : Int) < (s.size : Int))) with f20 | f20
 · refine zb I 20 (decide ((i : Int) < (s.size : Int))) (true) (f20) fun Al W I => zx I 21 (fun _ => .pointer (some (at_ p12 i))) (fun Al W I => d0x (c := c12) j0x (by have h := I.fa.2.1.rd.solid; rw [hlL, ← hs] at h; exact h) (by have := oTr f20; omega)) fun Al W I => zx I 22 (fun _ => .int .u8 ((dg L i : Nat) : Int)) (fun Al W I => u0z I.fa.2.1.rd s1y (by have := oTr f20; omega)) fun Al W I => zqo I (fun Al W I => have hzW := I.bel.size; sshl p6 _ c6 (be (L.take i)) 8 _ 8 W I.fa.1.rd hn6 (by have := hla i; omega) (by omega) rfl rfl) fun Al W p24 c24 I => zi I 26 .i64 ((dg L i : Nat) : Int) (((dg L i : Nat) : Int)) ((IntWalk.i64_in _ (by have := hdg i; omega))) fun Al W I => zqo I (fun Al W I => have hzW := I.bel.size; sof _ (dg L i) rfl (by have := hdg i; omega) W) fun Al W p27 c27 I => zqo I (fun Al W I => have hzW := I.bel.size; sadd p24 p27 _ _ c24 c27 (be (L.take i) * 2 ^ 8) (dg L i) (be (L.take (i + 1))) W I.fa.2.1.rd I.fa.1.rd rfl rfl (by have := a0l a0b (show be (L.take i) * 2 ^ 8 ≤ be (L.take (i + 1)) by have := hst i (by have := oTr f20; omega); omega); have := hla (i + 1); omega) (by have := a0l a0b (show dg L i ≤ be (L.take (i + 1)) by have := hst i (by have := oTr f20; omega); omega); have := hla (i + 1); omega) (hst i (by have := oTr f20; omega))) fun Al W p28 c28 I => zi I 29 .i64 ((i : Int) + 1) (((i + 1 : Nat) : Int)) ((by rw [show ((i : Int) + 1) = ((i + 1 : Nat) : Int) by omega]; exact IntWalk.i64_in _ (by have := oTr f20; omega))) fun Al W I => a0i I J0 fun Al W U I => hJ0 (gk0 - 1) _ _ _ _ _ ((by have := oTr f20; omega)) ⟨U, i + 1, p28, c28, (dig B32 (be (L.take (i + 1)))).length, rfl, rfl, rfl, rfl, (by have := oTr f20; omega)⟩ (I.pick [0, 4])
 refine zb I 20 (decide ((i : Int) < (s.size : Int))) (false) (f20) fun Al W I => ?_
 have hi : i = f.size := by have := oFa f20; omega
 have hbe : be (L.take i) = be L := by rw [hi, HFIN.out]
 rw [hbe] at hn6
 refine zqo I (fun Al W I => have hzW := I.bel.size; sshr p6 _ c6 (be L) f.F T _ W (by rw [← hbe]; exact I.fa.1.rd) hn6 (by have h := I.fa.1.le_cap; rw [hbe] at h; exact h) (by omega) (by omega) rfl HTT.out) fun Al W p33 c33 I => ?_
 rcases bTF (decide ((((dig B32 T).length : Nat) : Int) > 0)) with f36 | f36
 · refine zb I 36 (decide ((((dig B32 T).length : Nat) : Int) > 0)) (true) (f36) fun Al W I => zx I 38 (fun _ => .pointer (some (at_ p33 0))) (fun Al W I => d0x (c := c33) (m := 0) f1y I.fa.1.rd.solid (by have := oTr f36; omega)) fun Al W I => zx I 39 (fun _ => .int .u32 (T : Int)) (fun Al W I => s1m I.fa.1.rd k1b (by have := oTr f36; omega) (hTd (by have := oTr f36; omega))) fun Al W I => zi I 40 .i64 (T : Int) (T : Int) (iwo) fun Al W I => zd [1] I fun Al W I => zk [0, 1, 2] I fun I => a1r 3 I _ (fun _ _ _ _ => l0u .i64 (T : Int) .i64 (f.E : Int) (((T / P : Nat) : Int)) (Int.natCast_nonneg f.E) ((by exact HSHR.out))) fun I => zkb 4 I (((T / P : Nat) : Int) == 1) ((T / P == 1)) ((by exact o0s _)) fun I => zk [5, 6, 7] I fun I => a1r 8 I _ (fun _ _ _ _ => n0y .i64 (1) .i64 (f.E : Int) ((P : Int)) (Int.natCast_nonneg f.E) ((HSH.out))) fun I => zki 9 I .i64 ((P : Int) - 1) (((P - 1 : Nat) : Int)) ((by rw [show ((P : Int) - 1) = ((P - 1 : Nat) : Int) by omega]; exact iwo)) fun I => a1r 10 I _ (fun _ _ _ _ => h0v .i64 (T : Int) (((P - 1 : Nat) : Int)) (((T % P : Nat) : Int)) ((by exact HAND.out (by omega)))) fun I => zk [11, 12, 13, 14] I fun I => zo 15 I fun I => zqo I (fun Al W I => have hzW := I.bel.size; sshl p33 _ c33 T f.F (T * 2 ^ f.F) _ W I.fa.1.rd rfl (by omega) (by omega) rfl rfl) fun Al W p56 c56 I => zo 16 I fun I => zqo I (fun Al W I => have hzW := I.bel.size; ssub p6 p56 _ _ c6 c56 (be L) (T * 2 ^ f.F) (be L - T * 2 ^ f.F) W (by rw [← hbe]; exact I.fa.2.2.1.rd) I.fa.1.rd hn6 rfl (by omega) hle rfl) fun Al W p57 c57 I => zk [17] I fun I => zo 18 I fun I => zn I fun Al W I => zret I fun Al W I => ⟨p57, c57, rfl, I.fa.1.mono (by omega), I.below⟩
 refine zb I 36 (decide ((((dig B32 T).length : Nat) : Int) > 0)) (false) (f36) fun Al W I => zd [1] I fun Al W I => zk [0, 1, 2] I fun I => a1r 3 I _ (fun _ _ _ _ => l0u .i64 (0) .i64 (f.E : Int) (((T / P : Nat) : Int)) (Int.natCast_nonneg f.E) ((by first | exact HSHR.out | (rw [hT0.1 (by have := oFa f36; omega)]; exact HSHR0.out)))) fun I => zkb 4 I (((T / P : Nat) : Int) == 1) ((T / P == 1)) ((by exact o0s _)) fun I => zk [5, 6, 7] I fun I => a1r 8 I _ (fun _ _ _ _ => n0y .i64 (1) .i64 (f.E : Int) ((P : Int)) (Int.natCast_nonneg f.E) ((HSH.out))) fun I => zki 9 I .i64 ((P : Int) - 1) (((P - 1 : Nat) : Int)) ((by rw [show ((P : Int) - 1) = ((P - 1 : Nat) : Int) by omega]; exact iwo)) fun I => a1r 10 I _ (fun _ _ _ _ => h0v .i64 (0) (((P - 1 : Nat) : Int)) (((T % P : Nat) : Int)) ((by first | exact HAND.out (by omega) | (rw [hT0.1 (by have := oFa f36; omega)]; exact HAND0.out (by omega))))) fun I => zk [11, 12, 13, 14] I fun I => zo 15 I fun I => zqo I (fun Al W I => have hzW := I.bel.size; sshl p33 _ c33 T f.F (T * 2 ^ f.F) _ W I.fa.1.rd rfl (by omega) (by omega) rfl rfl) fun Al W p56 c56 I => zo 16 I fun I => zqo I (fun Al W I => have hzW := I.bel.size; ssub p6 p56 _ _ c6 c56 (be L) (T * 2 ^ f.F) (be L - T * 2 ^ f.F) W (by rw [← hbe]; exact I.fa.2.2.1.rd) I.fa.1.rd hn6 rfl (by omega) hle rfl) fun Al W p57 c57 I => zk [17] I fun I => zo 18 I fun I => zn I fun Al W I => zret I fun Al W I => ⟨p57, c57, rfl, I.fa.1.mono (by omega), I.below⟩
structure Rin where
 g : Bool
 p : OA
 c : Nat
 xs : List Nat
 q : OA
 d : Nat
 ys : List Nat
 e : Int
structure InR (w : World) (a : Rin) : Prop where
 r1 : Rd w .u32 a.p a.xs
 l1 : a.xs.length ≤ 9223372036854775807
 b1 : ∀ x ∈ a.xs, x < B32
 r2 : Rd w .u32 a.q a.ys
 l2 : a.ys.length ≤ 9223372036854775807
 b2 : ∀ x ∈ a.ys, x < B32
theorem InR.past {w w' : World} {a : Rin} (h : InR w a) (hb : Below w.heap.size w w') : InR w' a := ⟨h.r1.past hb, h.l1, h.b1, h.r2.past hb, h.l2, h.b2⟩
def e0w (a : Rin) : Int := if b0b a.xs ≠ 0 then b0b a.xs else if b0b a.ys ≠ 0 then b0b a.ys else if a.ys.length = 0 ∨ a.e < -20000 ∨ 20000 < a.e then 3 else 0
def c0f (a : Rin) (g : Gd) (way : Int) : Int := if e0w a ≠ 0 then e0w a else if errG g ≠ 0 then errG g else if way < 1 ∨ 5 < way then 6 else 0
def t1d : Pl := ⟨false, 0, 0, false, false, false⟩
def j0y (a : Rin) (g : Gd) (way : Int) : Pl := if c0f a g way = 0 then a0m a.g (val B32 a.xs) (val B32 a.ys) a.e g way else t1d
def x0k (w : World) (d : Pl) (er : Int) (en : Ending) (w' : World) : Prop :=
 ∃ p c, en = .returned (.tuple #[.agg #[.bool d.neg, .slice p (dig B32 d.d).length c, .int .i64 d.pow, .bool d.exact, .bool d.over, .bool d.under], .int .i64 er]) ∧ Own w' w.heap.size .u32 139 p c (dig B32 d.d) ∧ Below w.heap.size w w'
theorem d0g {w wk : World} {b : Nat} {er : Int} {v3 : Bool} {d : Pl} (hd : d = ⟨false, 0, 0, v3, false, false⟩) (hs : Below w.heap.size w wk) (hB : w.heap.size ≤ b) :
 x0k w d er (.returned (.tuple #[.agg #[.bool false, .slice none 0 0, .int .i64 0, .bool v3, .bool false, .bool false], .int .i64 er]))
  ((((((wk.setCell ⟨b, 0, none⟩ (.bool false)).setCell ⟨b, 1, none⟩ (.slice none 0 0)).setCell ⟨b, 2, none⟩ (.int .i64 0)).setCell ⟨b, 3, none⟩ (.bool v3)).setCell ⟨b, 4, none⟩ (.bool false)).setCell ⟨b, 5, none⟩ (.bool false)) := by
 subst hd
 exact ⟨none, 0, by rw [a0e]; rfl, by simp only [a0e]; exact Own.nil _ _ _ _, hs.trans ((r0j wk b _ _ _ _ _ _).below hB)⟩
theorem s0v {w wk : World} {b base : Nat} {er : Int} {d : Pl} {p : OA} {c : Nat} (hs : Below w.heap.size w wk) (ho : Own wk base .u32 139 p c (dig B32 d.d)) (hb : w.heap.size ≤ base) (hB : w.heap.size ≤ b) (hne : p.isSome = true → blk p ≠ b) :
 x0k w d er (.returned (.tuple #[.agg #[.bool d.neg, .slice p (dig B32 d.d).length c, .int .i64 d.pow, .bool d.exact, .bool d.over, .bool d.under], .int .i64 er]))
  ((((((wk.setCell ⟨b, 0, none⟩ (.bool d.neg)).setCell ⟨b, 1, none⟩ (.slice p (dig B32 d.d).length c)).setCell ⟨b, 2, none⟩ (.int .i64 d.pow)).setCell ⟨b, 3, none⟩ (.bool d.exact)).setCell ⟨b, 4, none⟩ (.bool d.over)).setCell ⟨b, 5, none⟩ (.bool d.under)) :=
 ⟨p, c, rfl, (ho.only (r0j wk b _ _ _ _ _ _) hne).mono hb, hs.trans ((r0j wk b _ _ _ _ _ _).below hB)⟩
theorem v0b (a : Rin) (g : Gd) (way : Int) (w : World) (ha : InR w a) :
 Calls Tryz.prog 50 #[.agg #[.bool a.g, .slice a.p a.xs.length a.c, .slice a.q a.ys.length a.d, .int .i64 a.e], .agg #[.int .i64 g.rad, .int .i64 g.digs, .int .i64 g.lo, .int .i64 g.hi, .bool g.grad], .int .i64 way] w (x0k w (j0y a g way) (c0f a g way)) := by
 obtain ⟨er, her⟩ : ∃ er, c0f a g way = er := ⟨_, rfl⟩
 obtain ⟨rv, hrv⟩ : ∃ rv, j0y a g way = rv := ⟨_, rfl⟩
 rw [her, hrv]
 have HER := lHd her
 have HRV := lHd hrv
 clear her hrv
 have hz0 : er ≠ 0 → rv = t1d := fun h => by rw [← HRV.out]; unfold j0y; rw [HER.out, if_neg h]
 have HZ0 := lHd hz0
 clear hz0
 have HCG := fun W => lHd (s0r g W)
 have HCX := fun W (h : Rd W .u32 a.p a.xs) => lHd (h0b a.p a.xs.length a.c a.xs W h rfl ha.l1)
 have HCY := fun W (h : Rd W .u32 a.q a.ys) => lHd (h0b a.q a.ys.length a.d a.ys W h rfl ha.l2)
 obtain ⟨e1, he1⟩ : ∃ e1, b0b a.xs = e1 := ⟨_, rfl⟩
 obtain ⟨e2, he2⟩ : ∃ e2, b0b a.ys = e2 := ⟨_, rfl⟩
 obtain ⟨e3, he3⟩ : ∃ e3, errG g = e3 := ⟨_, rfl⟩
 rw [he1] at HCX
 rw [he2] at HCY
 rw [he3] at HCG
 have HE1 := lHd he1
 have HE2 := lHd he2
 have HE3 := lHd he3
 clear he1 he2 he3
 go_enter Tryz.func50, Tryz.ntmps50
 go_wp2_with fail
 refine o1g (fun W1 hb1 hz1 Q G R L => ?_)
 replace ha := ha.past hb1
 have hs1 := hb1
 go_loopg [9, 10, 18] 2 (fun gk s9 s10 iv wr => ∃ i : Nat, iv = .int .i64 i ∧ gk + i = 2 ∧ Below W1.heap.size W1 wr ∧ Hid (i = 0 ∨ (i = 1 ∧ e1 = 0) ∨ (i = 2 ∧ e1 = 0 ∧ e2 = 0)))
 case atStart => exact ⟨0, rfl, rfl, Below.refl _ _, .inl rfl⟩
 case round =>
  obtain ⟨i, rfl, hgk, hb, HI⟩ := hrel
  have hs2 := hs1.trans (hb.mono hs1.size)
  replace Q := Q.past hb
  replace G := G.past hb
  replace R := R.past hb
  replace L := L.past hb
  replace ha := ha.past hb
  rcases HI.out with rfl | ⟨rfl, h10⟩ | ⟨rfl, h10, h20⟩
  · clear HI
    obtain ⟨L_0, L_1⟩ := L.e2
    go_wp2_with fail
    clear L_0 L_1
    ((with_reducible refine ((HCX _ ha.r1).out).mono ?_))
    rintro e3 w3 ⟨rfl, hb3⟩
    replace Q := Q.past hb3
    replace G := G.past hb3
    replace R := R.past hb3
    replace L := L.past hb3
    replace ha := ha.past hb3
    have hs3 := hs2.trans (hb3.mono hs2.size)
    by_cases h1 : e1 = 0
    · subst h1
      obtain ⟨L_0, L_1⟩ := L.e2
      go_wp2_with fail
      clear L_0 L_1
      go_roundg 1
      case measure => omega
      case rel => exact ⟨1, by go_num, rfl, hb.trans (hb3.mono hb.size), by unfold Hid; simp⟩
    · have t1 : (e1 == 0) = false := bFn h1
      have t2 : (e1 != 0) = true := by rw [bne, t1]; rfl
      have H1 := lHd h1
      clear h1
      obtain ⟨R_0, R_1, R_2, R_3, R_4, R_5⟩ := R.e6
      have R_f0 := R.f 0
      have R_f1 := R.f 1
      have R_f2 := R.f 2
      have R_f3 := R.f 3
      have R_f4 := R.f 4
      have R_f5 := R.f 5
      go_wp2_with fail
      clear R_0 R_1 R_2 R_3 R_4 R_5 R_f0 R_f1 R_f2 R_f3 R_f4 R_f5
      obtain ⟨R_0, R_1, R_2, R_3, R_4, R_5⟩ := R.e6
      refine bodyPost_ret (v := .tuple #[.agg #[.bool false, .slice none 0 0, .int .i64 0, .bool false, .bool false, .bool false], .int .i64 e1]) (by simp [results, Tryz.results50, go_sem, R_0, R_1, R_2, R_3, R_4, R_5]) rfl ?_
      have e0 : er = e1 := by rw [← HER.out]; unfold c0f e0w; rw [HE1.out, if_pos H1.out, if_pos H1.out]
      subst e0
      exact d0g (HZ0.out H1.out) hs3 (by omega)
  · subst h10
    clear HI
    obtain ⟨L_0, L_1⟩ := L.e2
    go_wp2_with fail
    clear L_0 L_1
    ((with_reducible refine ((HCY _ ha.r2).out).mono ?_))
    rintro e3 w3 ⟨rfl, hb3⟩
    replace Q := Q.past hb3
    replace G := G.past hb3
    replace R := R.past hb3
    replace L := L.past hb3
    replace ha := ha.past hb3
    have hs3 := hs2.trans (hb3.mono hs2.size)
    by_cases h1 : e2 = 0
    · subst h1
      obtain ⟨L_0, L_1⟩ := L.e2
      go_wp2_with fail
      clear L_0 L_1
      go_roundg 0
      case measure => omega
      case rel => exact ⟨2, by go_num, rfl, hb.trans (hb3.mono hb.size), by unfold Hid; simp⟩
    · have t1 : (e2 == 0) = false := bFn h1
      have t2 : (e2 != 0) = true := by rw [bne, t1]; rfl
      have H1 := lHd h1
      clear h1
      obtain ⟨R_0, R_1, R_2, R_3, R_4, R_5⟩ := R.e6
      have R_f0 := R.f 0
      have R_f1 := R.f 1
      have R_f2 := R.f 2
      have R_f3 := R.f 3
      have R_f4 := R.f 4
      have R_f5 := R.f 5
      go_wp2_with fail
      clear R_0 R_1 R_2 R_3 R_4 R_5 R_f0 R_f1 R_f2 R_f3 R_f4 R_f5
      obtain ⟨R_0, R_1, R_2, R_3, R_4, R_5⟩ := R.e6
      refine bodyPost_ret (v := .tuple #[.agg #[.bool false, .slice none 0 0, .int .i64 0, .bool false, .bool false, .bool false], .int .i64 e2]) (by simp [results, Tryz.results50, go_sem, R_0, R_1, R_2, R_3, R_4, R_5]) rfl ?_
      have e00 : e0w a = e2 := by unfold e0w; rw [HE1.out, HE2.out, if_neg (by simp), if_pos H1.out]
      have e0 : er = e2 := by rw [← HER.out]; unfold c0f; rw [e00, if_pos H1.out]
      subst e0
      exact d0g (HZ0.out H1.out) hs3 (by omega)
  · subst h10 h20
    clear HI
    have HR0 : Hid (e0w a = if a.ys.length = 0 ∨ a.e < -20000 ∨ 20000 < a.e then 3 else 0) := by
     show e0w a = _
     unfold e0w
     rw [HE1.out, HE2.out, if_neg (by simp), if_neg (by simp)]
    by_cases hy : a.ys.length = 0
    · have t1 : ((a.ys.length : Int) == 0) = true := by rw [hy]; rfl
      have e0 : er = 3 := by
       have e00 : e0w a = 3 := HR0.out.trans (if_pos (.inl hy))
       rw [← HER.out]; unfold c0f; rw [e00, if_pos (by omega)]
      subst e0
      clear hy
      obtain ⟨L_0, L_1⟩ := L.e2
      obtain ⟨Q_0, Q_1, Q_2, Q_3⟩ := Q.e4
      go_upto_region 9 with (fail)
      clear L_0 L_1 Q_0 Q_1 Q_2 Q_3
      obtain ⟨R_0, R_1, R_2, R_3, R_4, R_5⟩ := R.e6
      have R_f0 := R.f 0
      have R_f1 := R.f 1
      have R_f2 := R.f 2
      have R_f3 := R.f 3
      have R_f4 := R.f 4
      have R_f5 := R.f 5
      go_wp2_with fail
      clear R_0 R_1 R_2 R_3 R_4 R_5 R_f0 R_f1 R_f2 R_f3 R_f4 R_f5
      obtain ⟨R_0, R_1, R_2, R_3, R_4, R_5⟩ := R.e6
      refine bodyPost_ret (v := .tuple #[.agg #[.bool false, .slice none 0 0, .int .i64 0, .bool false, .bool false, .bool false], .int .i64 3]) (by simp [results, Tryz.results50, go_sem, R_0, R_1, R_2, R_3, R_4, R_5]) rfl ?_
      exact d0g (HZ0.out (by omega)) hs2 (by omega)
    · have t1 : ((a.ys.length : Int) == 0) = false := bFn (by omega)
      by_cases hf : a.e < -20000 ∨ 20000 < a.e
      · have t2 := f0u hf
        have e0 : er = 3 := by
         have e00 : e0w a = 3 := HR0.out.trans (if_pos (.inr hf))
         rw [← HER.out]; unfold c0f; rw [e00, if_pos (by omega)]
        subst e0
        clear hy hf
        obtain ⟨L_0, L_1⟩ := L.e2
        obtain ⟨Q_0, Q_1, Q_2, Q_3⟩ := Q.e4
        go_wp2_with fail
        clear L_0 L_1 Q_0 Q_1 Q_2 Q_3
        ((with_reducible refine ((c0z _ _ _ (by omega))).mono ?_))
        rintro _ _ ⟨rfl, rfl⟩
        obtain ⟨R_0, R_1, R_2, R_3, R_4, R_5⟩ := R.e6
        have R_f0 := R.f 0
        have R_f1 := R.f 1
        have R_f2 := R.f 2
        have R_f3 := R.f 3
        have R_f4 := R.f 4
        have R_f5 := R.f 5
        go_wp2_with fail
        clear R_0 R_1 R_2 R_3 R_4 R_5 R_f0 R_f1 R_f2 R_f3 R_f4 R_f5
        obtain ⟨R_0, R_1, R_2, R_3, R_4, R_5⟩ := R.e6
        refine bodyPost_ret (v := .tuple #[.agg #[.bool false, .slice none 0 0, .int .i64 0, .bool false, .bool false, .bool false], .int .i64 3]) (by simp [results, Tryz.results50, go_sem, R_0, R_1, R_2, R_3, R_4, R_5]) rfl ?_
        exact d0g (HZ0.out (by omega)) hs2 (by omega)
      · have t2 := i0n (n := a.e) (m := 20000) (by omega) (by omega)
        have HR1 : Hid (e0w a = 0) := HR0.out.trans (if_neg (by omega))
        have he1 : -20000 ≤ a.e := by omega
        have he2 : a.e ≤ 20000 := by omega
        have hy1 : 0 < a.ys.length := by omega
        clear hy hf
        obtain ⟨L_0, L_1⟩ := L.e2
        obtain ⟨Q_0, Q_1, Q_2, Q_3⟩ := Q.e4
        go_wp2_with fail
        clear L_0 L_1 Q_0 Q_1 Q_2 Q_3
        ((with_reducible refine ((c0z _ _ _ (by omega))).mono ?_))
        rintro _ _ ⟨rfl, rfl⟩
        obtain ⟨G_0, G_1, G_2, G_3, G_4⟩ := G.e5
        go_wp2_with fail
        clear G_0 G_1 G_2 G_3 G_4
        ((with_reducible refine ((HCG _).out).mono ?_))
        rintro e4 w4 ⟨rfl, hb4⟩
        replace Q := Q.past hb4
        replace G := G.past hb4
        replace R := R.past hb4
        replace L := L.past hb4
        replace ha := ha.past hb4
        have hs4 := hs2.trans (hb4.mono hs2.size)
        by_cases h3 : e3 = 0
        · subst h3
          by_cases hw : way < 1 ∨ 5 < way
          · have t4 := q0l hw
            have e0 : er = 6 := by rw [← HER.out]; unfold c0f; rw [HR1.out, HE3.out, if_neg (by simp), if_neg (by simp), if_pos hw]
            subst e0
            clear hw
            go_wp2_with fail
            ((with_reducible refine (u0x way _).mono ?_))
            rintro e5 w5 ⟨rfl, hb5⟩
            replace Q := Q.past hb5
            replace G := G.past hb5
            replace R := R.past hb5
            replace L := L.past hb5
            replace ha := ha.past hb5
            have hs5 := hs4.trans (hb5.mono hs4.size)
            obtain ⟨R_0, R_1, R_2, R_3, R_4, R_5⟩ := R.e6
            have R_f0 := R.f 0
            have R_f1 := R.f 1
            have R_f2 := R.f 2
            have R_f3 := R.f 3
            have R_f4 := R.f 4
            have R_f5 := R.f 5
            go_wp2_with fail
            clear R_0 R_1 R_2 R_3 R_4 R_5 R_f0 R_f1 R_f2 R_f3 R_f4 R_f5
            obtain ⟨R_0, R_1, R_2, R_3, R_4, R_5⟩ := R.e6
            refine bodyPost_ret (v := .tuple #[.agg #[.bool false, .slice none 0 0, .int .i64 0, .bool false, .bool false, .bool false], .int .i64 6]) (by simp [results, Tryz.results50, go_sem, R_0, R_1, R_2, R_3, R_4, R_5]) rfl ?_
            exact d0g (HZ0.out (by omega)) hs5 (by omega)
          · have t4 := u0w (k := way) (by omega) (by omega)
            have e0 : er = 0 := by rw [← HER.out]; unfold c0f; rw [HR1.out, HE3.out, if_neg (by simp), if_neg (by simp), if_neg hw]
            subst e0
            have hw1 : 1 ≤ way := by omega
            have hw2 : way ≤ 5 := by omega
            clear hw
            go_wp2_with fail
            ((with_reducible refine (u0x way _).mono ?_))
            rintro e5 w5 ⟨rfl, hb5⟩
            replace Q := Q.past hb5
            replace G := G.past hb5
            replace R := R.past hb5
            replace L := L.past hb5
            replace ha := ha.past hb5
            have hs5 := hs4.trans (hb5.mono hs4.size)
            obtain ⟨ex, lx⟩ := e0r ha.b1 HE1.out
            obtain ⟨ey, ly⟩ := e0r ha.b2 HE2.out
            have HRV2 : Hid (rv = a0m a.g (val B32 a.xs) (val B32 a.ys) a.e g way) := by
             show rv = _
             rw [← HRV.out]; unfold j0y; rw [HER.out, if_pos rfl]
            by_cases hx : a.xs.length = 0
            · have t5 : ((a.xs.length : Int) == 0) = true := by rw [hx]; rfl
              have hxs : a.xs = [] := List.eq_nil_of_length_eq_zero hx
              have hrv : rv = ⟨false, 0, 0, true, false, false⟩ := by rw [HRV2.out, hxs]; rfl
              have HRV3 := lHd hrv
              clear hx hxs hrv ex ey
              obtain ⟨Q_0, Q_1, Q_2, Q_3⟩ := Q.e4
              obtain ⟨R_0, R_1, R_2, R_3, R_4, R_5⟩ := R.e6
              have R_f0 := R.f 0
              have R_f1 := R.f 1
              have R_f2 := R.f 2
              have R_f3 := R.f 3
              have R_f4 := R.f 4
              have R_f5 := R.f 5
              go_wp2_with fail
              clear Q_0 Q_1 Q_2 Q_3 R_0 R_1 R_2 R_3 R_4 R_5 R_f0 R_f1 R_f2 R_f3 R_f4 R_f5
              obtain ⟨R_0, R_1, R_2, R_3, R_4, R_5⟩ := R.e6
              refine bodyPost_ret (v := .tuple #[.agg #[.bool false, .slice none 0 0, .int .i64 0, .bool true, .bool false, .bool false], .int .i64 0]) (by simp [results, Tryz.results50, go_sem, R_0, R_1, R_2, R_3, R_4, R_5]) rfl ?_
              exact d0g HRV3.out hs5 (by omega)
            · have t5 : ((a.xs.length : Int) == 0) = false := bFn (by omega)
              have hnum : 0 < val B32 a.xs := by
               rcases Nat.eq_zero_or_pos (val B32 a.xs) with h | h
               · rw [h, a0e] at ex; rw [ex] at hx; simp at hx
               · exact h
              have hden : 0 < val B32 a.ys := by
               rcases Nat.eq_zero_or_pos (val B32 a.ys) with h | h
               · rw [h, a0e] at ey; rw [ey] at hy1; simp at hy1
               · exact h
              generalize val B32 a.xs = num at *
              generalize val B32 a.ys = den at *
              have GG := c0e HE3.out
              have wp := b0g g
              have hd1 := GG.d1
              have HF := fun W h1 h2 => lHd (s0u a.g a.p a.q a.c a.d num den a.e g way _ W h1 h2 (by rw [← ex]; omega) (by rw [← ey]; omega) hnum hden ⟨by omega, by omega⟩ GG hw1 hw2 (j0s hnum hden a.e (by omega) (by omega)))
              have hrv : fitK a.g num den a.e g way (theK num den a.e (wid g) g.digs.toNat) = rv := by rw [HRV2.out]; unfold a0m; rw [if_neg (by omega)]
              rw [hrv, ← ex, ← ey] at HF
              clear hrv ex ey hx GG hd1 wp hnum hden
              obtain ⟨Q_0, Q_1, Q_2, Q_3⟩ := Q.e4
              obtain ⟨G_0, G_1, G_2, G_3, G_4⟩ := G.e5
              go_wp2_with fail
              clear Q_0 Q_1 Q_2 Q_3 G_0 G_1 G_2 G_3 G_4
              ((with_reducible refine ((HF _ ha.r1 ha.r2).out).mono ?_))
              rintro e6 w6 ⟨p6, c6, rfl, ho6, hb6⟩
              replace Q := Q.past hb6
              replace G := G.past hb6
              replace R := R.past hb6
              replace L := L.past hb6
              replace ha := ha.past hb6
              have hs6 := hs5.trans (hb6.mono hs5.size)
              obtain ⟨R_0, R_1, R_2, R_3, R_4, R_5⟩ := R.e6
              have R_f0 := R.f 0
              have R_f1 := R.f 1
              have R_f2 := R.f 2
              have R_f3 := R.f 3
              have R_f4 := R.f 4
              have R_f5 := R.f 5
              go_wp2_with fail
              clear R_0 R_1 R_2 R_3 R_4 R_5 R_f0 R_f1 R_f2 R_f3 R_f4 R_f5
              obtain ⟨R_0, R_1, R_2, R_3, R_4, R_5⟩ := R.e6
              refine bodyPost_ret (v := .tuple #[.agg #[.bool rv.neg, .slice p6 (dig B32 rv.d).length c6, .int .i64 rv.pow, .bool rv.exact, .bool rv.over, .bool rv.under], .int .i64 0]) (by simp [results, Tryz.results50, go_sem, R_0, R_1, R_2, R_3, R_4, R_5]) rfl ?_
              have hz5 := hs5.size
              exact s0v hs6 ho6 hz5 (by omega) (fun h => by have := (ho6.blk_lt h).1; have := hb5.size; have := hb4.size; have := hb.size; omega)
        · have t1 : (e3 == 0) = false := bFn h3
          have t2 : (e3 != 0) = true := by rw [bne, t1]; rfl
          have H3 := lHd h3
          clear h3
          obtain ⟨R_0, R_1, R_2, R_3, R_4, R_5⟩ := R.e6
          have R_f0 := R.f 0
          have R_f1 := R.f 1
          have R_f2 := R.f 2
          have R_f3 := R.f 3
          have R_f4 := R.f 4
          have R_f5 := R.f 5
          go_wp2_with fail
          clear R_0 R_1 R_2 R_3 R_4 R_5 R_f0 R_f1 R_f2 R_f3 R_f4 R_f5
          obtain ⟨R_0, R_1, R_2, R_3, R_4, R_5⟩ := R.e6
          refine bodyPost_ret (v := .tuple #[.agg #[.bool false, .slice none 0 0, .int .i64 0, .bool false, .bool false, .bool false], .int .i64 e3]) (by simp [results, Tryz.results50, go_sem, R_0, R_1, R_2, R_3, R_4, R_5]) rfl ?_
          have e0 : er = e3 := by rw [← HER.out]; unfold c0f; rw [HR1.out, HE3.out, if_neg (by simp), if_pos H3.out]
          subst e0
          exact d0g (HZ0.out H3.out) hs4 (by omega)
end Go.Proofs.YtgbbhlginbmghaaGreatDoor
namespace Go.Slip
theorem k1m {d r : Nat} (h0 : 0 < d) (h : d < 65536) : tz (d + 65536 * r) = tz d := by
 obtain ⟨h1, h2⟩ := b0v d h0
 have hle : tz d < 16 := by
  rcases Nat.lt_or_ge (tz d) 16 with h3 | h3
  · exact h3
  · have h4 : 2 ^ 16 ≤ 2 ^ tz d := Nat.pow_le_pow_right (by omega) h3
    have h5 : 0 < d / 2 ^ tz d := by
     rcases Nat.eq_zero_or_pos (d / 2 ^ tz d) with h | h
     · rw [h] at h2; simp at h2
     · exact h
    have h6 := Nat.mul_le_mul_left (2 ^ tz d) h5
    simp only [Nat.succ_eq_add_one, Nat.zero_add, Nat.mul_one] at h6
    omega
 obtain ⟨t, ht⟩ : ∃ t, t = tz d := ⟨_, rfl⟩
 rw [← ht] at h1 h2 hle ⊢
 obtain ⟨s, hs⟩ : ∃ s, 16 = t + (s + 1) := ⟨15 - t, by omega⟩
 have e : d + 65536 * r = (d / 2 ^ t + 2 * (2 ^ s * r)) * 2 ^ t := by
  have e1 : (65536 : Nat) = 2 ^ t * (2 ^ s * 2) := by
   rw [show (65536 : Nat) = 2 ^ 16 by decide, hs, Nat.pow_add, Nat.pow_succ]
  rw [e1, Nat.add_mul]
  conv => lhs; rw [← h1]
  grind
 rw [e]
 exact n0j _ _ (by omega)
theorem k1n {xs : List Nat} {a i : Nat} (ha : val B16 xs = a) (hz : ∀ j, j < i → dg xs j = 0) (hd : 0 < dg xs i) (hl : dg xs i < 65536) : tz a = 16 * i + tz (dg xs i) := by
 have h1 := b0c B16 xs i
 have h2 : val B16 (xs.take i) = 0 := by
  have : xs.take i = List.replicate (xs.take i).length 0 := by
   apply c0p
   · simp
   · intro t ht
     simp only [List.length_take] at ht
     rw [f0k (by omega), d0c, hz t (by omega)]
  rw [this, c0b]
 rw [h2, g0i, Nat.zero_add] at h1
 have e : a = (dg xs i + 65536 * val B16 (xs.drop (i + 1))) * 2 ^ (16 * i) := by
  rw [← ha, h1, Nat.pow_mul, show (2 : Nat) ^ 16 = B16 by decide, Nat.mul_comm]
  rfl
 rw [e, y0k (by omega), k1m hd hl]
 omega
def i0g (xs : List Nat) (j n : Nat) : Prop := n = 16 * j ∧ ∀ i, i < j → dg xs i = 0
theorem i0g.start (xs : List Nat) : i0g xs 0 0 := ⟨rfl, fun i hi => by omega⟩
theorem i0g.step {xs : List Nat} {j n : Nat} (h : i0g xs j n) (hz : dg xs j = 0) : i0g xs (j + 1) (n + 16) :=
 ⟨by have := h.1; omega, fun i hi => by
   by_cases he : i = j
   · subst he; exact hz
   · exact h.2 i (by omega)⟩
theorem i0g.lt {xs : List Nat} {j n m : Nat} (h : i0g xs j n) (hv : val B16 xs = m) (h0 : 0 < m) : j < xs.length := by
 rcases Nat.lt_or_ge j xs.length with h1 | h1
 · exact h1
 · have := n0n (B := B16) (xs := xs) (fun i hi => h.2 i (by omega))
   omega
def o0t (m d n : Nat) : Prop := ∃ t, n + tz d = t ∧ t = tz m ∧ 0 < d
theorem o0t.start {xs : List Nat} {j n m : Nat} (h : i0g xs j n) (hv : val B16 xs = m) (h0 : 0 < dg xs j) (hl : dg xs j < 65536) : o0t m (dg xs j) n :=
 ⟨_, rfl, by rw [k1n hv h.2 h0 hl, h.1], h0⟩
theorem o0t.step {m d n : Nat} (h : o0t m d n) (he : d % 2 = 0) : o0t m (d / 2) (n + 1) := by
 obtain ⟨t, h1, h2, h3⟩ := h
 rw [r0h h3 he] at h1
 exact ⟨t, by omega, h2, by omega⟩
theorem o0t.done {m d n : Nat} (h : o0t m d n) (he : d % 2 = 1) : n = tz m := by
 obtain ⟨t, h1, h2, h3⟩ := h
 rw [t0s he] at h1
 omega
end Go.Slip
namespace Go.Proofs.YtgbbhlginbmghaaGreatDoor
open Go.RowKit Go.Slip
theorem stay {P : Program} {f : FuncId} {args : Array Value} {w : World} {E : Ending} (h : Calls P f args w fun e w' => e = E ∧ w = w') : Calls P f args w fun e w' => e = E ∧ Below w.heap.size w w' :=
 h.mono fun e w' ⟨h1, h2⟩ => ⟨h1, by subst h2; exact Below.refl _ _⟩
theorem v0c {a b : Nat} (h : cmpN a b = 0) : a = b := by
 unfold cmpN at h
 split at h
 · omega
 · split at h <;> omega
theorem g1a {n : Nat} (x : Nat) (hl : (dig B32 x).length ≤ n) : tz x ≤ 32 * n := by
 rcases Nat.eq_zero_or_pos x with h | h
 · rw [h, w0i]; omega
 · have h1 := (b0v x h).1
   have h2 := (a0g a0b x n).1 hl
   have h3 : 2 ^ tz x ≤ x := by
    have : 0 < x / 2 ^ tz x := by
     rcases Nat.eq_zero_or_pos (x / 2 ^ tz x) with h4 | h4
     · rw [h4, Nat.mul_zero] at h1; omega
     · exact h4
    have h5 := Nat.mul_le_mul_left (2 ^ tz x) this
    omega
   rw [show B32 = 2 ^ 32 from rfl, ← Nat.pow_mul] at h2
   have h6 := (Nat.pow_lt_pow_iff_right (a := 2) (by omega)).1 (Nat.lt_of_le_of_lt h3 h2)
   omega
theorem u1n (x : Nat) (hl : (dig B32 x).length ≤ 1000) : tz x ≤ 32000 := g1a x hl
def n1n (w : World) (base : Nat) (d : Dc) (en : Ending) (w' : World) : Prop :=
 ∃ p c, en = .returned (.tuple #[.int .i64 (d.cls : Int), .slice p (dig B32 d.m).length c, .int .i64 d.p]) ∧ Own w' base .u32 139 p c (dig B32 d.m) ∧ Below w.heap.size w w'
theorem b0m {w w' : World} {base : Nat} {k : Nat} {en : Ending} (h : en = .returned (.tuple #[.int .i64 (k : Int), .slice none 0 0, .int .i64 0])) (hb : Below w.heap.size w w') : n1n w base ⟨k, 0, 0⟩ en w' := by
 refine ⟨none, 0, ?_, ?_, hb⟩
 · rw [h, a0e]; rfl
 · rw [a0e]; exact Own.nil _ _ _ _
theorem g1b (f : Fm) (g : Bool) (e x : Nat) (p : OA) (c base : Nat) (w : World) (G : c0g f) (hp : Own w base .u32 139 p c (dig B32 x)) (hb : base ≤ w.heap.size) (he : e < 2 ^ f.E) (hx : x < 2 ^ f.F) :
 Calls Tryz.prog 133 #[(fV f), .agg #[.bool g, .int .i64 (e : Int), .slice p (dig B32 x).length c]] w (n1n w base (f.dec g e x)) := by
 have z2 := G.e2
 have z3 := G.f2
 have z4 := G.lo
 have hxl := a0u hx (k := 2) (by omega)
 have hx0 := a0h a0b x
 have h0T : 0 < 2 ^ f.E := Nat.pow_pos (by omega)
 have h0T2 : 2 ^ f.E ≤ 2 ^ 15 := Nat.pow_le_pow_right (by omega) (by omega)
 have HSH := lHd (r0v (E := f.E) (by omega))
 have hl63 : (dig B32 (2 ^ 63)).length ≤ 2 := a0u (n := 64) (by omega) (by omega)
 have hlF : (dig B32 (2 ^ f.F)).length ≤ 3 := a0u (n := f.F + 1) (Nat.pow_lt_pow_right (by omega) (by omega)) (by omega)
 have hcm : cmpN x (2 ^ 63) = 0 ↔ x = 2 ^ 63 := ⟨v0c, fun h => by rw [h]; unfold cmpN; simp⟩
 have hbl : blen x < 64 ↔ x < 2 ^ 63 := by have := a0w x 63; omega
 have r2 : (f.g.rad == 16) = true ↔ f.fam = 2 := by have := G.rad; rw [beq_iff_eq]; split at this <;> omega
 have r1 : f.inf = true ↔ f.fam = 1 := by unfold Fm.inf; rw [beq_iff_eq]
 have r3 : f.res = true ↔ f.fam = 3 := by unfold Fm.res; rw [beq_iff_eq]
 have rh : f.fam ≠ 2 → (f.hid = true ↔ f.ext = false) := fun h => by unfold Fm.hid; cases f.ext <;> simp [h]
 have rh2 : f.fam ≠ 2 → (¬ f.hid = true ↔ f.ext = true) := fun h => by rw [rh h]; cases f.ext <;> simp
 have rf := G.fam
 have d2 : f.fam = 2 → f.dec g e x = ⟨2, x, f.g.lo + e⟩ := fun h => by unfold Fm.dec; rw [if_pos h]
 have d3 : f.fam = 1 → e = 2 ^ f.E - 1 → (f.ext = false ∧ x = 0 ∨ f.ext = true ∧ x = 2 ^ 63) → f.dec g e x = ⟨3, 0, 0⟩ := fun h h' h'' => by unfold Fm.dec; rw [if_neg (by omega), if_pos ⟨h, h'⟩, if_pos h'']
 have d4 : f.fam = 1 → e = 2 ^ f.E - 1 → ¬ (f.ext = false ∧ x = 0 ∨ f.ext = true ∧ x = 2 ^ 63) → f.dec g e x = ⟨4, 0, 0⟩ := fun h h' h'' => by unfold Fm.dec; rw [if_neg (by omega), if_pos ⟨h, h'⟩, if_neg h'']
 have d5 : f.fam = 3 → e = 0 → f.dec g e x = if g then ⟨5, 0, 0⟩ else ⟨1, 0, 0⟩ := fun h h' => by unfold Fm.dec; rw [if_neg (by omega), if_neg (by omega), if_pos ⟨h, h'⟩]
 have d6 : f.fam = 1 → e ≠ 2 ^ f.E - 1 → e = 0 → f.dec g e x = ⟨2, x, f.g.lo⟩ := fun h h' h'' => by unfold Fm.dec; rw [if_neg (by omega), if_neg (fun k => h' k.2), if_neg (by omega), if_pos h'']
 have d7 : f.fam ≠ 2 → ¬ (f.fam = 1 ∧ e = 2 ^ f.E - 1) → e ≠ 0 → f.dec g e x = if f.ext = false then ⟨2, x + 2 ^ f.F, f.g.lo + e - 1⟩ else if x < 2 ^ 63 then ⟨4, 0, 0⟩ else ⟨2, x, f.g.lo + e - 1⟩ := fun h h' h'' => by unfold Fm.dec; rw [if_neg h, if_neg h', if_neg (fun k => h'' k.2), if_neg h'']
 generalize f.dec g e x = D at *
 generalize 2 ^ f.E = P at *
 have e34 : (((e : Int) == ((P - 1 : Nat) : Int)) = true ↔ e = P - 1) := by rw [beq_iff_eq]; omega
 have e59 : (((e : Int) == 0) = true ↔ e = 0) := by rw [beq_iff_eq]; omega
 let aA : Box := ⟨98, [.v (.int .i64 (f.size : Int)), .v (.int .i64 (f.E : Int)), .v (.int .i64 (f.F : Int)), .v (.int .i64 f.g.rad), .v (.int .i64 f.g.digs), .v (.int .i64 f.g.lo), .v (.int .i64 f.g.hi), .v (.bool f.g.grad), .v (.bool f.hid), .v (.bool f.inf), .v (.bool f.res), .v (.func (.func (ordF f)) #[] #[])], false⟩
 let aB : Box := ⟨197, [.v (.bool g), .v (.int .i64 (e : Int)), .v (.slice p (dig B32 x).length c)], false⟩
 let aC : SV := .v ((fV f))
 let aD : SV := .v (.agg #[.bool g, .int .i64 (e : Int), .slice p (dig B32 x).length c])
 have I := Inv.start w [ownF base .u32 139 p c (dig B32 x)] ⟨hp, True.intro⟩
 refine a0c [.v ((fV f)), .v (.agg #[.bool g, .int .i64 (e : Int), .slice p (dig B32 x).length c])] I Tryz.func133 ?_
 refine zbin I 11 _ (fun _ _ _ _ _ => n0y .i64 (1) .i64 (f.E : Int) ((P : Int)) (by omega) ((HSH.out))) fun Al W I => zi I 12 .i64 ((P : Int) - 1) (((P - 1 : Nat) : Int)) ((by rw [show ((P : Int) - 1) = ((P - 1 : Nat) : Int) by omega]; exact iwo)) fun Al W I => ?_
 rcases bTF (f.g.rad == 16) with f20 | f20
 · refine zb I 20 (f.g.rad == 16) (true) (f20) fun Al W I => zd [] I fun Al W I => zk [0, 1, 2, 3, 4] I fun I => zki 5 I .i64 (f.g.lo + (e : Int)) (f.g.lo + (e : Int)) (iwo) fun I => zk [6, 7, 8] I fun I => zret I (v := fun Al => .tuple #[vI 2, .slice p (dig B32 x).length c, vI (f.g.lo + (e : Int))]) fun Al W I => ?_
   (rw [d2 (r2.1 f20)]; exact ⟨p, c, rfl, I.fa.1, I.below⟩)
 refine zb I 20 (f.g.rad == 16) (false) (f20) fun Al W I => zcut I (some 3000005) (fun fr bx gs => ∃ (U1 : Nat → Value) (sp : Bool), fr = (aC :: aD :: .p 0 0 :: .p 1 0 :: .v (vI 0) :: .v (.slice none 0 0) :: .v (vI 0) :: .v (vI ((P - 1 : Nat) : Int)) :: .v (vI f.g.lo) :: sw U1 9 7 (.v (.bool false) :: sw U1 17 10 (.v (.bool sp) :: sw U1 28 27 (su 2 (sw U1 57 8 (su 2 (sw U1 67 6 (vu :: sw U1 74 13 (vu :: sw U1 88 11 [])))))))) : List SV) ∧ bx = [aA, aB] ∧ gs = [ownF base .u32 139 p c (dig B32 x)] ∧ (sp = true ↔ (f.fam = 1 ∧ e = P - 1)) ∧ (f.fam ≠ 2)) ?_ ?_
 · intro J hJ Al W I
   rcases bTF (f.inf) with f29 | f29
   · refine zb I 29 (f.inf) (true) (f29) fun Al W I => ?_
     rcases bTF ((e : Int) == ((P - 1 : Nat) : Int)) with f34 | f34
     · refine zb I 34 ((e : Int) == ((P - 1 : Nat) : Int)) (true) (f34) fun Al W I => a0i I J fun Al W U I => hJ _ _ _ _ _ ⟨U, true, rfl, rfl, rfl, (by first | exact iff_of_true rfl ⟨r1.1 f29, e34.1 f34⟩ | exact iff_of_false Bool.false_ne_true (fun h => by have := e34.2 h.2; rw [f34] at this; cases this) | exact iff_of_false Bool.false_ne_true (fun h => by have := r1.2 h.1; rw [f29] at this; cases this)), (fun h => by have := r2.2 h; rw [f20] at this; cases this)⟩ (I.pick [0])
     refine zb I 34 ((e : Int) == ((P - 1 : Nat) : Int)) (false) (f34) fun Al W I => a0i I J fun Al W U I => hJ _ _ _ _ _ ⟨U, false, rfl, rfl, rfl, (by first | exact iff_of_true rfl ⟨r1.1 f29, e34.1 f34⟩ | exact iff_of_false Bool.false_ne_true (fun h => by have := e34.2 h.2; rw [f34] at this; cases this) | exact iff_of_false Bool.false_ne_true (fun h => by have := r1.2 h.1; rw [f29] at this; cases this)), (fun h => by have := r2.2 h; rw [f20] at this; cases this)⟩ (I.pick [0])
   refine zb I 29 (f.inf) (false) (f29) fun Al W I => a0i I J fun Al W U I => hJ _ _ _ _ _ ⟨U, false, rfl, rfl, rfl, (by exact iff_of_false Bool.false_ne_true (fun h => by have := r1.2 h.1; rw [f29] at this; cases this)), (fun h => by have := r2.2 h; rw [f20] at this; cases this)⟩ (I.pick [0])
 rintro _ _ _ ⟨U1, sp, rfl, rfl, rfl, hsp, n2⟩ Al W I
 refine zcut I (some 2000027) (fun fr bx gs => ∃ (U2 : Nat → Value) , fr = (aC :: aD :: .p 0 0 :: .p 1 0 :: sw U2 4 3 (.v (vI ((P - 1 : Nat) : Int)) :: .v (vI f.g.lo) :: sw U2 9 7 (.v (.bool false) :: sw U2 17 10 (.v (.bool sp) :: sw U2 28 71 []))) : List SV) ∧ bx = [aA, aB] ∧ gs = [ownF base .u32 139 p c (dig B32 x)] ∧ (D = ⟨2, x, f.g.lo + e - 1⟩)) ?_ ?_
 · intro J hJ Al W I
   rcases bTF sp with rfl | rfl
   · by_cases s37 : f.hid = true
     · by_cases s42 : x = 0
       · obtain ⟨k1, k2⟩ := hsp.1 rfl
         refine zd [] I fun Al W I => zk [0] I fun I => zkb 1 I (f.hid) (true) (s37) fun I => zk [2, 3, 4, 5] I fun I => zkb 6 I ((((dig B32 x).length : Nat) : Int) == 0) (true) (beq_iff_eq.2 (by omega)) fun I => zk [7, 8, 9, 10, 11, 12, 13, 14, 15, 16, 17, 18, 19] I fun I => zret I (v := fun Al => .tuple #[vI 3, .slice none 0 0, vI 0]) fun Al W I => ?_
         first | (rw [d2 (r2.1 f20)]; exact ⟨p, c, rfl, I.fa.1, I.below⟩) | (rw [d3 k1 k2 (.inl ⟨(rh n2).1 s37, s42⟩)]; exact b0m (k := 3) rfl I.below) | (rw [d4 k1 k2 (fun h => h.elim (fun h => absurd h.2 s42) (fun h => by have := (rh n2).1 s37; rw [this] at h; cases h.1))]; exact b0m (k := 4) rfl I.below)
       obtain ⟨k1, k2⟩ := hsp.1 rfl
       refine zd [] I fun Al W I => zk [0] I fun I => zkb 1 I (f.hid) (true) (s37) fun I => zk [2, 3, 4, 5] I fun I => zkb 6 I ((((dig B32 x).length : Nat) : Int) == 0) (false) (bFn (by omega)) fun I => zk [7, 8, 9] I fun I => zkb 10 I (f.hid) (true) (s37) fun I => zk [11, 12, 13, 14, 15, 16, 17, 18, 19] I fun I => zret I (v := fun Al => .tuple #[vI 4, .slice none 0 0, vI 0]) fun Al W I => ?_
       first | (rw [d2 (r2.1 f20)]; exact ⟨p, c, rfl, I.fa.1, I.below⟩) | (rw [d3 k1 k2 (.inl ⟨(rh n2).1 s37, s42⟩)]; exact b0m (k := 3) rfl I.below) | (rw [d4 k1 k2 (fun h => h.elim (fun h => absurd h.2 s42) (fun h => by have := (rh n2).1 s37; rw [this] at h; cases h.1))]; exact b0m (k := 4) rfl I.below)
     by_cases s53 : x = 2 ^ 63
     · obtain ⟨k1, k2⟩ := hsp.1 rfl
       refine zd [] I fun Al W I => zk [0] I fun I => zkb 1 I (f.hid) (false) ((by simpa using s37)) fun I => zk [2, 3, 4, 5, 6, 7, 8, 9] I fun I => zkb 10 I (f.hid) (false) ((by simpa using s37)) fun I => zk [11, 12, 13, 14] I fun I => zo 15 I fun I => zqo I (fun Al W I => have hzW := I.bel.size; i0f 63 (2 ^ 63) 63 W (by omega) rfl rfl) fun Al W p51 c51 I => zo 16 I fun I => zq I (fun Al W I => have hzW := I.bel.size; e0a p p51 _ _ c c51 x (2 ^ 63) W I.fa.2.1.rd I.fa.1.rd rfl rfl (by omega) (by omega)) fun Al W I => zkb 17 I ((cmpN x (2 ^ 63)) == 0) (true) (beq_iff_eq.2 (hcm.2 s53)) fun I => zk [18, 19] I fun I => zret I (v := fun Al => .tuple #[vI 3, .slice none 0 0, vI 0]) fun Al W I => ?_
       first | (rw [d2 (r2.1 f20)]; exact ⟨p, c, rfl, I.fa.2.1, I.below⟩) | (rw [d3 k1 k2 (.inr ⟨(rh2 n2).1 s37, s53⟩)]; exact b0m (k := 3) rfl I.below) | (rw [d4 k1 k2 (fun h => h.elim (fun h => by have := (rh2 n2).1 s37; rw [this] at h; cases h.1) (fun h => absurd h.2 s53))]; exact b0m (k := 4) rfl I.below)
     obtain ⟨k1, k2⟩ := hsp.1 rfl
     refine zd [] I fun Al W I => zk [0] I fun I => zkb 1 I (f.hid) (false) ((by simpa using s37)) fun I => zk [2, 3, 4, 5, 6, 7, 8, 9] I fun I => zkb 10 I (f.hid) (false) ((by simpa using s37)) fun I => zk [11, 12, 13, 14] I fun I => zo 15 I fun I => zqo I (fun Al W I => have hzW := I.bel.size; i0f 63 (2 ^ 63) 63 W (by omega) rfl rfl) fun Al W p51 c51 I => zo 16 I fun I => zq I (fun Al W I => have hzW := I.bel.size; e0a p p51 _ _ c c51 x (2 ^ 63) W I.fa.2.1.rd I.fa.1.rd rfl rfl (by omega) (by omega)) fun Al W I => zkb 17 I ((cmpN x (2 ^ 63)) == 0) (false) (bFn (fun h => s53 (hcm.1 h))) fun I => zk [18, 19] I fun I => zret I (v := fun Al => .tuple #[vI 4, .slice none 0 0, vI 0]) fun Al W I => ?_
     first | (rw [d2 (r2.1 f20)]; exact ⟨p, c, rfl, I.fa.2.1, I.below⟩) | (rw [d3 k1 k2 (.inr ⟨(rh2 n2).1 s37, s53⟩)]; exact b0m (k := 3) rfl I.below) | (rw [d4 k1 k2 (fun h => h.elim (fun h => by have := (rh2 n2).1 s37; rw [this] at h; cases h.1) (fun h => absurd h.2 s53))]; exact b0m (k := 4) rfl I.below)
   rcases bTF ((e : Int) == 0) with f59 | f59
   · refine zb I 59 ((e : Int) == 0) (true) (f59) fun Al W I => ?_
     rcases bTF (f.res) with f62 | f62
     · refine zb I 62 (f.res) (true) (f62) fun Al W I => ?_
       rcases bTF (g) with f65 | f65
       · refine zb I 65 (g) (true) (f65) fun Al W I => zret I (v := fun Al => .tuple #[vI 5, .slice none 0 0, vI 0]) fun Al W I => ?_
         first | (rw [d2 (r2.1 f20)]; exact ⟨p, c, rfl, I.fa.1, I.below⟩) | (rw [d5 (r3.1 f62) (e59.1 f59), f65]; first | exact b0m (k := 5) rfl I.below | exact b0m (k := 1) rfl I.below) | (rw [d6 (by have : f.fam ≠ 3 := fun h => (by have := r3.2 h; rw [f62] at this; cases this); omega) (fun h => Bool.false_ne_true (hsp.2 ⟨by have : f.fam ≠ 3 := fun h => (by have := r3.2 h; rw [f62] at this; cases this); omega, h⟩)) (e59.1 f59)]; exact ⟨p, c, rfl, I.fa.1, I.below⟩)
       refine zb I 65 (g) (false) (f65) fun Al W I => zret I (v := fun Al => .tuple #[vI 1, .slice none 0 0, vI 0]) fun Al W I => ?_
       first | (rw [d2 (r2.1 f20)]; exact ⟨p, c, rfl, I.fa.1, I.below⟩) | (rw [d5 (r3.1 f62) (e59.1 f59), f65]; first | exact b0m (k := 5) rfl I.below | exact b0m (k := 1) rfl I.below) | (rw [d6 (by have : f.fam ≠ 3 := fun h => (by have := r3.2 h; rw [f62] at this; cases this); omega) (fun h => Bool.false_ne_true (hsp.2 ⟨by have : f.fam ≠ 3 := fun h => (by have := r3.2 h; rw [f62] at this; cases this); omega, h⟩)) (e59.1 f59)]; exact ⟨p, c, rfl, I.fa.1, I.below⟩)
     refine zb I 62 (f.res) (false) (f62) fun Al W I => zb I 69 ((e : Int) == 0) (true) (f59) fun Al W I => zd [] I fun Al W I => zk [0, 1, 2, 3, 4, 5] I fun I => zret I (v := fun Al => .tuple #[vI 2, .slice p (dig B32 x).length c, vI f.g.lo]) fun Al W I => ?_
     first | (rw [d2 (r2.1 f20)]; exact ⟨p, c, rfl, I.fa.1, I.below⟩) | (rw [d6 (by have : f.fam ≠ 3 := fun h => (by have := r3.2 h; rw [f62] at this; cases this); omega) (fun h => Bool.false_ne_true (hsp.2 ⟨by have : f.fam ≠ 3 := fun h => (by have := r3.2 h; rw [f62] at this; cases this); omega, h⟩)) (e59.1 f59)]; exact ⟨p, c, rfl, I.fa.1, I.below⟩)
   refine zb I 59 ((e : Int) == 0) (false) (f59) fun Al W I => zb I 69 ((e : Int) == 0) (false) (f59) fun Al W I => ?_
   rcases bTF (f.hid) with f75 | f75
   · refine zb I 75 (f.hid) (true) (f75) fun Al W I => zd [] I fun Al W I => zk [0, 1, 2, 3, 6, 7, 8] I fun I => zki 9 I .i64 (f.g.lo + (e : Int)) (f.g.lo + (e : Int)) (iwo) fun I => zki 10 I .i64 ((f.g.lo + (e : Int)) - 1) ((f.g.lo + (e : Int)) - 1) (iwo) fun I => zo 4 I fun I => zqo I (fun Al W I => have hzW := I.bel.size; i0f f.F (2 ^ f.F) _ W (by omega) rfl rfl) fun Al W p80 c80 I => zo 5 I fun I => zqo I (fun Al W I => have hzW := I.bel.size; sadd p p80 _ _ c c80 x (2 ^ f.F) (x + 2 ^ f.F) W I.fa.2.1.rd I.fa.1.rd rfl rfl (by omega) (by omega) rfl) fun Al W p81 c81 I => zk [11, 12, 13] I fun I => zret I (v := fun Al => .tuple #[vI 2, .slice p81 (dig B32 (x + 2 ^ f.F)).length c81, vI ((f.g.lo + (e : Int)) - 1)]) fun Al W I => ?_
     (rw [d7 n2 (fun h => Bool.false_ne_true (hsp.2 h)) (fun h => by have := e59.2 h; rw [f59] at this; cases this), if_pos ((rh n2).1 f75)]; exact ⟨p81, c81, rfl, I.fa.1.mono (by omega), I.below⟩)
   refine zb I 75 (f.hid) (false) (f75) fun Al W I => zq I (fun Al W I => have hzW := I.bel.size; stay (i0d p _ c x W I.fa.1.rd rfl (by omega))) fun Al W I => ?_
   rcases bTF (decide (((blen x : Nat) : Int) < 64)) with f91 | f91
   · refine zb I 91 (decide (((blen x : Nat) : Int) < 64)) (true) (f91) fun Al W I => zret I (v := fun Al => .tuple #[vI 4, .slice none 0 0, vI 0]) fun Al W I => ?_
     first | (rw [d2 (r2.1 f20)]; exact ⟨p, c, rfl, I.fa.1, I.below⟩) | (rw [d7 n2 (fun h => Bool.false_ne_true (hsp.2 h)) (fun h => by have := e59.2 h; rw [f59] at this; cases this), if_neg (by rw [← rh n2, f75]; exact Bool.false_ne_true), if_pos (hbl.1 (by have := oTr f91; omega))]; exact b0m (k := 4) rfl I.below)
   refine zb I 91 (decide (((blen x : Nat) : Int) < 64)) (false) (f91) fun Al W I => a0i I J fun Al W U I => hJ _ _ _ _ _ ⟨U, rfl, rfl, rfl, (by rw [d7 n2 (fun h => Bool.false_ne_true (hsp.2 h)) (fun h => by have := e59.2 h; rw [f59] at this; cases this), if_neg (by rw [← rh n2, f75]; exact Bool.false_ne_true), if_neg (fun h => oFa f91 (by have := hbl.2 h; omega))])⟩ (I.pick [0])
 rintro _ _ _ ⟨U2, rfl, rfl, rfl, hd9⟩ Al W I
 refine zd [] I fun Al W I => zk [0, 1, 2, 3, 4] I fun I => zki 5 I .i64 (f.g.lo + (e : Int)) (f.g.lo + (e : Int)) (iwo) fun I => zki 6 I .i64 ((f.g.lo + (e : Int)) - 1) ((f.g.lo + (e : Int)) - 1) (iwo) fun I => zk [7, 8, 9] I fun I => zret I (v := fun Al => .tuple #[vI 2, .slice p (dig B32 x).length c, vI ((f.g.lo + (e : Int)) - 1)]) fun Al W I => ?_
 (rw [hd9]; exact ⟨p, c, rfl, I.fa.1, I.below⟩)
theorem g1c (p : OA) (c x : Nat) (pw : Int) (gg : Gd) (base : Nat) (w : World) (hp : Own w base .u32 139 p c (dig B32 x)) (hl : (dig B32 x).length ≤ 1000) (hpw : -100000 ≤ pw ∧ pw ≤ 100000) (hr : gg.rad = 2 ∨ gg.rad = 16) (hT : TabW w) :
 Calls Tryz.prog 134 #[.slice p (dig B32 x).length c, .int .i64 pw, .int .i64 gg.rad] w
  fun en w' => ∃ q d, en = .returned (.tuple #[.slice q (dig B32 (x / 2 ^ (tz x / wid gg * wid gg))).length d, .int .i64 (pw + (tz x / wid gg : Nat))]) ∧ Own w' w.heap.size .u32 139 q d (dig B32 (x / 2 ^ (tz x / wid gg * wid gg))) ∧ Below w.heap.size w w' := by
 have hz := u1n x hl
 rcases hr with hr | hr
 · have hw : wid gg = 1 := by unfold wid; rw [hr]; rfl
   rw [hw]
   generalize htz : tz x = z at *
   have HTZ := lHd htz
   clear htz
   have I := Inv.start w [ownF base .u32 139 p c (dig B32 x), tabF] ⟨hp, hT, True.intro⟩
   refine a0c [.v (.slice p (dig B32 x).length c), .v (.int .i64 pw), .v (.int .i64 gg.rad)] I Tryz.func134 ?_
   refine zb I 11 (gg.rad == 16) (false) (by rw [hr]; rfl) fun Al W I => zq I (fun Al W I => have hzW := I.bel.size; stay (k0i p _ c x W I.fa.1.rd rfl (by omega) I.fa.2.1)) fun Al W I => zbin I 15 _ (fun _ _ _ _ _ => n0z .i64 ((tz x : Nat) : Int) (1) (((z / 1 : Nat) : Int)) ((by decide)) ((by rw [HTZ.out]; exact (IntWalk.i64_in _ (by simp; omega)).trans (by simp)))) fun Al W I => zi I 19 .i64 (((z / 1 : Nat) : Int) * 1) (((z / 1 * 1 : Nat) : Int)) (((iwo).trans (by omega))) fun Al W I => zqo I (fun Al W I => have hzW := I.bel.size; sshr p _ c x (z / 1 * 1) _ _ W I.fa.1.rd rfl (by have := I.fa.1.le_cap; omega) (by omega) (by omega) rfl rfl) fun Al W p20 c20 I => zi I 23 .i64 (pw + ((z / 1 : Nat) : Int)) (pw + ((z / 1 : Nat) : Int)) (iwo) fun Al W I => zret I fun Al W I => ⟨p20, c20, rfl, I.fa.1.mono (by omega), I.below⟩
 · have hw : wid gg = 4 := by unfold wid; rw [hr]; rfl
   rw [hw]
   generalize htz : tz x = z at *
   have HTZ := lHd htz
   clear htz
   have I := Inv.start w [ownF base .u32 139 p c (dig B32 x), tabF] ⟨hp, hT, True.intro⟩
   refine a0c [.v (.slice p (dig B32 x).length c), .v (.int .i64 pw), .v (.int .i64 gg.rad)] I Tryz.func134 ?_
   refine zb I 11 (gg.rad == 16) (true) (by rw [hr]; rfl) fun Al W I => zq I (fun Al W I => have hzW := I.bel.size; stay (k0i p _ c x W I.fa.1.rd rfl (by omega) I.fa.2.1)) fun Al W I => zbin I 15 _ (fun _ _ _ _ _ => n0z .i64 ((tz x : Nat) : Int) (4) (((z / 4 : Nat) : Int)) ((by decide)) ((by rw [HTZ.out, show (z : Int).tdiv 4 = ((z / 4 : Nat) : Int) by rw [Int.tdiv_eq_ediv_of_nonneg (by omega)]; rfl]; exact iwo))) fun Al W I => zi I 19 .i64 (((z / 4 : Nat) : Int) * 4) (((z / 4 * 4 : Nat) : Int)) (((iwo).trans (by omega))) fun Al W I => zqo I (fun Al W I => have hzW := I.bel.size; sshr p _ c x (z / 4 * 4) _ _ W I.fa.1.rd rfl (by have := I.fa.1.le_cap; omega) (by omega) (by omega) rfl rfl) fun Al W p20 c20 I => zi I 23 .i64 (pw + ((z / 4 : Nat) : Int)) (pw + ((z / 4 : Nat) : Int)) (iwo) fun Al W I => zret I fun Al W I => ⟨p20, c20, rfl, I.fa.1.mono (by omega), I.below⟩
def x0l (w : World) (v : Vl) (g : Bool) (en : Ending) (w' : World) : Prop :=
 ∃ p c, en = .returned (.tuple #[.agg #[.int .i64 (v.cls : Int), .bool v.neg, .slice p (dig B32 v.d).length c, .int .i64 v.pow], .bool g]) ∧ Own w' w.heap.size .u32 139 p c (dig B32 v.d) ∧ Below w.heap.size w w'
theorem q0m {w w' : World} {v : Vl} {k : Nat} {n g : Bool} {p : OA} {c d base : Nat} {x : Int} {en : Ending} (hv : v = ⟨k, n, d, x⟩) (h : en = .returned (.tuple #[.agg #[.int .i64 (k : Int), .bool n, .slice p (dig B32 d).length c, .int .i64 x], .bool g]))
 (ho : Own w' base .u32 139 p c (dig B32 d)) (hB : w.heap.size ≤ base) (hb : Below w.heap.size w w') : x0l w v g en w' := by
 subst hv
 exact ⟨p, c, h, ho.mono hB, hb⟩
theorem e0x {w w' : World} {v : Vl} {k : Nat} {n g : Bool} {en : Ending} (hv : v = ⟨k, n, 0, 0⟩) (h : en = .returned (.tuple #[.agg #[.int .i64 (k : Int), .bool n, .slice none 0 0, .int .i64 0], .bool g])) (hb : Below w.heap.size w w') : x0l w v g en w' :=
 q0m (p := none) (c := 0) (base := w.heap.size) hv (by rw [h, a0e]; rfl) (by rw [a0e]; exact Own.nil _ _ _ _) (Nat.le_refl _) hb
theorem b1s (f : Fm) (s : ByteArray) (w : World) (G : c0g f) (hs : s.size = f.size) (hT : TabW w) :
 Calls Tryz.prog 62 #[(fV f), .string s] w (x0l w (f.valN (a0q f s)) (f.neg (a0q f s))) := by
 have z2 := G.f2
 have he : f.exp (a0q f s) < 2 ^ f.E := Nat.mod_lt _ (Nat.pow_pos (by omega))
 have hx : f.frac (a0q f s) < 2 ^ f.F := Nat.mod_lt _ (Nat.pow_pos (by omega))
 have HS := fun W => lHd (f1z f s W G hs)
 unfold Fm.valN Fm.decN
 generalize f.neg (a0q f s) = g at *
 generalize f.exp (a0q f s) = e at *
 generalize f.frac (a0q f s) = x at *
 have HV := fun p c base W h1 h2 => lHd (g1b f g e x p c base W G h1 h2 he hx)
 have k1 := e1w f g e x
 have k2 := j1i (f := f) g (e := e) hx
 have k3 := p1g G g (frac := x) he
 have k4 := a0u k2 (k := 3) (by omega)
 have hrd : f.g.rad = 2 ∨ f.g.rad = 16 := by have := G.rad; split at this <;> omega
 clear k2
 generalize f.dec g e x = D at *
 obtain ⟨k, m, pw⟩ := D
 simp only at k1 k3 k4
 have hm0 := a0h a0b m
 rcases k1 with rfl | rfl | rfl | rfl | rfl
 · have hv : f.vl g ⟨1, m, pw⟩ = ⟨1, g, 0, 0⟩ := by unfold Fm.vl Dc.c; simp
   have I := Inv.start w [tabF] ⟨hT, True.intro⟩
   refine a0c [.v ((fV f)), .v (.string s)] I Tryz.func62 ?_
   refine zqo I (fun Al W I => (HS W).out) fun Al W p13 c13 I => zqo I (fun Al W I => have hzW := I.bel.size; (HV p13 c13 _ W I.fa.1 (by omega)).out) fun Al W p17 c17 I => zd [1] I fun Al W I => zk [0, 1, 2] I fun I => zo 3 I fun I => zn I fun Al W I => zk [4] I fun I => zret I fun Al W I => e0x hv rfl I.below
 · by_cases h0 : m = 0
   · have hv : f.vl g ⟨2, m, pw⟩ = ⟨1, g, 0, 0⟩ := by unfold Fm.vl Dc.c; simp [h0]
     have I := Inv.start w [tabF] ⟨hT, True.intro⟩
     refine a0c [.v ((fV f)), .v (.string s)] I Tryz.func62 ?_
     refine zqo I (fun Al W I => (HS W).out) fun Al W p13 c13 I => zqo I (fun Al W I => have hzW := I.bel.size; (HV p13 c13 _ W I.fa.1 (by omega)).out) fun Al W p17 c17 I => zb I 28 ((((dig B32 m).length : Nat) : Int) == 0) (true) (beq_iff_eq.2 (by omega)) fun Al W I => zd [1] I fun Al W I => zk [0, 1, 2] I fun I => zo 3 I fun I => zn I fun Al W I => zk [4] I fun I => zret I fun Al W I => e0x hv rfl I.below
   · have hv : f.vl g ⟨2, m, pw⟩ = ⟨2, g, m / 2 ^ (tz m / wid f.g * wid f.g), pw + (tz m / wid f.g : Nat)⟩ := by unfold Fm.vl Dc.c; simp [h0]
     have HB := fun p c base W h1 hT => lHd (g1c p c m pw f.g base W h1 (by omega) (by omega) hrd hT)
     generalize m / 2 ^ (tz m / wid f.g * wid f.g) = mm at *
     generalize pw + ((tz m / wid f.g : Nat) : Int) = pp at *
     have I := Inv.start w [tabF] ⟨hT, True.intro⟩
     refine a0c [.v ((fV f)), .v (.string s)] I Tryz.func62 ?_
     refine zqo I (fun Al W I => (HS W).out) fun Al W p13 c13 I => zqo I (fun Al W I => have hzW := I.bel.size; (HV p13 c13 _ W I.fa.1 (by omega)).out) fun Al W p17 c17 I => zb I 28 ((((dig B32 m).length : Nat) : Int) == 0) (false) (bFn (by omega)) fun Al W I => zqo I (fun Al W I => (HB p17 c17 _ W I.fa.1 I.fa.2.2.1).out) fun Al W q44 d44 I => zd [1] I fun Al W I => zk [0, 1, 2] I fun I => zo 3 I fun I => zn I fun Al W I => zk [4] I fun I => zret I fun Al W I => q0m hv rfl I.fa.1 (by omega) I.below
 · have hv : f.vl g ⟨3, m, pw⟩ = ⟨3, g, 0, 0⟩ := by unfold Fm.vl Dc.c; simp
   have I := Inv.start w [tabF] ⟨hT, True.intro⟩
   refine a0c [.v ((fV f)), .v (.string s)] I Tryz.func62 ?_
   refine zqo I (fun Al W I => (HS W).out) fun Al W p13 c13 I => zqo I (fun Al W I => have hzW := I.bel.size; (HV p13 c13 _ W I.fa.1 (by omega)).out) fun Al W p17 c17 I => zd [1] I fun Al W I => zk [0, 1, 2] I fun I => zo 3 I fun I => zn I fun Al W I => zk [4] I fun I => zret I fun Al W I => e0x hv rfl I.below
 · have hv : f.vl g ⟨4, m, pw⟩ = ⟨4, false, 0, 0⟩ := by unfold Fm.vl Dc.c; simp
   have I := Inv.start w [tabF] ⟨hT, True.intro⟩
   refine a0c [.v ((fV f)), .v (.string s)] I Tryz.func62 ?_
   refine zqo I (fun Al W I => (HS W).out) fun Al W p13 c13 I => zqo I (fun Al W I => have hzW := I.bel.size; (HV p13 c13 _ W I.fa.1 (by omega)).out) fun Al W p17 c17 I => zd [1] I fun Al W I => zk [0, 1, 2] I fun I => zo 3 I fun I => zn I fun Al W I => zk [4] I fun I => zret I fun Al W I => e0x hv rfl I.below
 · have hv : f.vl g ⟨5, m, pw⟩ = ⟨5, false, 0, 0⟩ := by unfold Fm.vl Dc.c; simp
   have I := Inv.start w [tabF] ⟨hT, True.intro⟩
   refine a0c [.v ((fV f)), .v (.string s)] I Tryz.func62 ?_
   refine zqo I (fun Al W I => (HS W).out) fun Al W p13 c13 I => zqo I (fun Al W I => have hzW := I.bel.size; (HV p13 c13 _ W I.fa.1 (by omega)).out) fun Al W p17 c17 I => zd [1] I fun Al W I => zk [0, 1, 2] I fun I => zo 3 I fun I => zn I fun Al W I => zk [4] I fun I => zret I fun Al W I => e0x hv rfl I.below
def a0p (n : Int) (s : ByteArray) : Int := if IsFm n then (if s.size = (fmt n).size then 0 else 1) else 6
theorem p1p (n : Int) (s : ByteArray) (w : World) (hn : IsFm n) (hs : s.size = (fmt n).size) :
 Calls Tryz.prog 61 #[.int .i64 n, .string s] w fun en w' => en = .returned (.tuple #[.agg #[.int .i64 (((fmt n).size : Nat) : Int), .int .i64 (((fmt n).E : Nat) : Int), .int .i64 (((fmt n).F : Nat) : Int), .int .i64 (fmt n).g.rad, .int .i64 (fmt n).g.digs, .int .i64 (fmt n).g.lo, .int .i64 (fmt n).g.hi, .bool (fmt n).g.grad, .bool (fmt n).hid, .bool (fmt n).inf, .bool (fmt n).res, .func (.func (ordF (fmt n))) #[] #[]], .int .i64 0]) ∧ Below w.heap.size w w' := by
 have HF := fun W => lHd (g0q n hn W)
 generalize fmt n = f at *
 have I := Inv.start w [] True.intro
 refine a0c [.v (.int .i64 n), .v (.string s)] I Tryz.func61 ?_
 refine zq I (fun Al W I => (HF W).out) fun Al W I => zb I 20 ((s.size : Int) != (f.size : Int)) (false) (by simp [hs]) fun Al W I => zrb I
theorem k1o (n : Int) (s : ByteArray) (w : World) (hn : IsFm n) (hs : s.size ≠ (fmt n).size) :
 Calls Tryz.prog 61 #[.int .i64 n, .string s] w fun en w' => en = .returned (.tuple #[.agg #[.int .i64 (((fmt n).size : Nat) : Int), .int .i64 (((fmt n).E : Nat) : Int), .int .i64 (((fmt n).F : Nat) : Int), .int .i64 (fmt n).g.rad, .int .i64 (fmt n).g.digs, .int .i64 (fmt n).g.lo, .int .i64 (fmt n).g.hi, .bool (fmt n).g.grad, .bool (fmt n).hid, .bool (fmt n).inf, .bool (fmt n).res, .func (.func (ordF (fmt n))) #[] #[]], .int .i64 1]) ∧ Below w.heap.size w w' := by
 have HF := fun W => lHd (g0q n hn W)
 generalize fmt n = f at *
 have I := Inv.start w [] True.intro
 refine a0c [.v (.int .i64 n), .v (.string s)] I Tryz.func61 ?_
 refine zq I (fun Al W I => (HF W).out) fun Al W I => zb I 20 ((s.size : Int) != (f.size : Int)) (true) (bne_iff_ne.2 (fun h => hs (by omega))) fun Al W I => zrb I
theorem k1p (n : Int) (s : ByteArray) (w : World) (hn : ¬ IsFm n) :
 Calls Tryz.prog 61 #[.int .i64 n, .string s] w fun en w' => en = .returned (.tuple #[.agg #[.int .i64 0, .int .i64 0, .int .i64 0, .int .i64 0, .int .i64 0, .int .i64 0, .int .i64 0, .bool false, .bool false, .bool false, .bool false, .nilFunc], .int .i64 6]) ∧ Below w.heap.size w w' := by
 have HF := fun W => lHd (i0e n hn W)
 have I := Inv.start w [] True.intro
 refine a0c [.v (.int .i64 n), .v (.string s)] I Tryz.func61 ?_
 refine zq I (fun Al W I => (HF W).out) fun Al W I => zrb I
def g1d (w : World) (v : Vl) (er : Int) (en : Ending) (w' : World) : Prop :=
 ∃ p c, en = .returned (.tuple #[.agg #[.int .i64 (v.cls : Int), .bool v.neg, .slice p (dig B32 v.d).length c, .int .i64 v.pow], .int .i64 er]) ∧ Own w' w.heap.size .u32 139 p c (dig B32 v.d) ∧ Below w.heap.size w w'
def z0c : Vl := ⟨0, false, 0, 0⟩
def decP (n : Int) (s : ByteArray) : Vl := if a0p n s = 0 then (fmt n).valN (a0q (fmt n) s) else z0c
theorem b0h {n : Int} {s : ByteArray} : a0p n s = 0 ↔ IsFm n ∧ s.size = (fmt n).size := by
 unfold a0p
 by_cases h1 : IsFm n
 · rw [if_pos h1]
   by_cases h2 : s.size = (fmt n).size
   · rw [if_pos h2]; simp [h1, h2]
   · rw [if_neg h2]; simp [h2]
 · rw [if_neg h1]; simp [h1]
theorem o0u {w w' : World} {er : Int} {en : Ending} (h : en = .returned (.tuple #[.agg #[.int .i64 0, .bool false, .slice none 0 0, .int .i64 0], .int .i64 er])) (hb : Below w.heap.size w w') : g1d w z0c er en w' := by
 refine ⟨none, 0, ?_, ?_, hb⟩
 · rw [h]; show _ = Ending.returned (.tuple #[.agg #[_, _, .slice none (dig B32 0).length 0, _], _]); rw [a0e]; rfl
 · show Own _ _ _ _ _ _ (dig B32 0); rw [a0e]; exact Own.nil _ _ _ _
theorem g0r (n : Int) (s : ByteArray) (w : World) (hT : TabW w) :
 Calls Tryz.prog 26 #[.int .i64 n, .string s] w (g1d w (decP n s) (a0p n s)) := by
 by_cases hn : IsFm n
 · by_cases hs : s.size = (fmt n).size
   · have h0 : a0p n s = 0 := b0h.2 ⟨hn, hs⟩
     have hd : decP n s = (fmt n).valN (a0q (fmt n) s) := by unfold decP; rw [if_pos h0]
     rw [hd, h0]
     have HF := fun W => lHd (p1p n s W hn hs)
     have HD := fun W h => lHd (b1s (fmt n) s W (b0r hn) hs h)
     generalize (fmt n).valN (a0q (fmt n) s) = v at *
     generalize (fmt n).neg (a0q (fmt n) s) = g at *
     generalize fmt n = f at *
     have I := Inv.start w [tabF] ⟨hT, True.intro⟩
     refine a0c [.v (.int .i64 n), .v (.string s)] I Tryz.func26 ?_
     refine zq I (fun Al W I => (HF W).out) fun Al W I => zqo I (fun Al W I => (HD W I.fa.1).out) fun Al W p23 c23 I => zret I fun Al W I => ⟨p23, c23, rfl, I.fa.1.mono (by omega), I.below⟩
   · have h0 : a0p n s = 1 := by unfold a0p; rw [if_pos hn, if_neg hs]
     have hd : decP n s = z0c := by unfold decP; rw [if_neg (by omega)]
     rw [hd, h0]
     have HF := fun W => lHd (k1o n s W hn hs)
     generalize fmt n = f at *
     have I := Inv.start w [] True.intro
     refine a0c [.v (.int .i64 n), .v (.string s)] I Tryz.func26 ?_
     refine zq I (fun Al W I => (HF W).out) fun Al W I => zret I fun Al W I => o0u rfl I.below
 · have h0 : a0p n s = 6 := by unfold a0p; rw [if_neg hn]
   have hd : decP n s = z0c := by unfold decP; rw [if_neg (by omega)]
   rw [hd, h0]
   have HF := fun W => lHd (k1p n s W hn)
   have I := Inv.start w [] True.intro
   refine a0c [.v (.int .i64 n), .v (.string s)] I Tryz.func26 ?_
   refine zq I (fun Al W I => (HF W).out) fun Al W I => zret I fun Al W I => o0u rfl I.below
def c0o (n : Int) : Int := if IsFm n then 0 else 6
theorem x0m {n : Int} (h : ¬ IsFm n) : fmt n = ⟨0, 0, 0, ⟨0, 0, 0, 0, false⟩, 0, false⟩ := by
 unfold IsFm at h
 unfold fmt
 rw [if_neg (by omega), if_neg (by omega), if_neg (by omega), if_neg (by omega), if_neg (by omega), if_neg (by omega), if_neg (by omega), if_neg (by omega)]
theorem z0d (n : Int) (w : World) : Calls Tryz.prog 19 #[.int .i64 n] w fun en w' => en = .returned (.tuple #[.int .i64 (((fmt n).size : Nat) : Int), .int .i64 (c0o n)]) ∧ Below w.heap.size w w' := by
 by_cases hn : IsFm n
 · have h0 : c0o n = 0 := by unfold c0o; rw [if_pos hn]
   rw [h0]
   have HF := fun W => lHd (g0q n hn W)
   generalize fmt n = f at *
   have I := Inv.start w [] True.intro
   refine a0c [.v (.int .i64 n)] I Tryz.func19 ?_
   refine zq I (fun Al W I => (HF W).out) fun Al W I => zrb I
 · have h0 : c0o n = 6 := by unfold c0o; rw [if_neg hn]
   rw [h0, x0m hn]
   have HF := fun W => lHd (i0e n hn W)
   have I := Inv.start w [] True.intro
   refine a0c [.v (.int .i64 n)] I Tryz.func19 ?_
   refine zq I (fun Al W I => (HF W).out) fun Al W I => zrb I
theorem z0e (n : Int) (w : World) : Calls Tryz.prog 36 #[.int .i64 n] w fun en w' => en = .returned (.tuple #[.agg #[.int .i64 (fmt n).g.rad, .int .i64 (fmt n).g.digs, .int .i64 (fmt n).g.lo, .int .i64 (fmt n).g.hi, .bool (fmt n).g.grad], .int .i64 (c0o n)]) ∧ Below w.heap.size w w' := by
 by_cases hn : IsFm n
 · have h0 : c0o n = 0 := by unfold c0o; rw [if_pos hn]
   rw [h0]
   have HF := fun W => lHd (g0q n hn W)
   generalize fmt n = f at *
   have I := Inv.start w [] True.intro
   refine a0c [.v (.int .i64 n)] I Tryz.func36 ?_
   refine zq I (fun Al W I => (HF W).out) fun Al W I => zrb I
 · have h0 : c0o n = 6 := by unfold c0o; rw [if_neg hn]
   rw [h0, x0m hn]
   have HF := fun W => lHd (i0e n hn W)
   have I := Inv.start w [] True.intro
   refine a0c [.v (.int .i64 n)] I Tryz.func36 ?_
   refine zq I (fun Al W I => (HF W).out) fun Al W I => zrb I
def famB (f : Fm) : Int := if f.fam = 1 then 65 else if f.fam = 2 then 66 else 67
abbrev uS (f : Fm) (n way k : Int) : List SV := [.v (.int .i64 n), .v (.int .i64 way), .v (.int .i64 f.g.rad), .v (.int .i64 f.g.digs), .v (.int .i64 f.g.lo), .v (.int .i64 f.g.hi), .v (.bool f.g.grad), .v (.int .u8 (famB f)), .v (.int .i64 k)]
theorem c0s (f : Fm) (n way a b c : Int) (u : Nat) (w : World) (U : Bt w u 186 #[.int .i64 n, .int .i64 way, .int .i64 f.g.rad, .int .i64 f.g.digs, .int .i64 f.g.lo, .int .i64 f.g.hi, .bool f.g.grad, .int .u8 (famB f), .int .i64 a]) (hc : bits .or .i64 a b = c) :
 Calls Tryz.prog 124 #[.pointer (some ⟨u, 0, none⟩), .int .i64 b] w fun e w' => e = .returned (.tuple #[]) ∧ Kp [u] w w' ∧ Bt w' u 186 #[.int .i64 n, .int .i64 way, .int .i64 f.g.rad, .int .i64 f.g.digs, .int .i64 f.g.lo, .int .i64 f.g.hi, .bool f.g.grad, .int .u8 (famB f), .int .i64 c] := by
 have I := Inv.startW w u 186 (uS f n way a) [] U True.intro True.intro
 refine a0c [.p 0 0, .v (.int .i64 b)] I Tryz.func124 ?_
 refine zbin I 9 _ (fun _ _ _ _ _ => m0h .i64 (a) (b) (c) (hc)) fun Al W I => zret I fun Al W I => ⟨rfl, I.bel, I.boxE 186 _⟩
theorem g1e (f : Fm) (n way a : Int) (u : Nat) (w : World) (U : Bt w u 186 #[.int .i64 n, .int .i64 way, .int .i64 f.g.rad, .int .i64 f.g.digs, .int .i64 f.g.lo, .int .i64 f.g.hi, .bool f.g.grad, .int .u8 (famB f), .int .i64 a]) :
 Calls Tryz.prog 130 #[.pointer (some ⟨u, 0, none⟩)] w fun e w' => e = .returned (.int .i64 ((wid f.g : Nat) : Int)) ∧ Below w.heap.size w w' := by
 by_cases h : f.g.rad = 16
 · have hw : wid f.g = 4 := by unfold wid; rw [if_pos h]
   rw [hw]
   have I := Inv.startR w [u] [⟨186, (uS f n way a), true⟩] [] ⟨U, True.intro⟩ True.intro
   refine a0c [.p 0 0] I Tryz.func130 ?_
   refine zb I 8 (f.g.rad == 16) (true) (beq_iff_eq.2 h) fun Al W I => zrb I
 · have hw : wid f.g = 1 := by unfold wid; rw [if_neg h]
   rw [hw]
   have I := Inv.startR w [u] [⟨186, (uS f n way a), true⟩] [] ⟨U, True.intro⟩ True.intro
   refine a0c [.p 0 0] I Tryz.func130 ?_
   refine zb I 8 (f.g.rad == 16) (false) (bFn h) fun Al W I => zrb I
theorem v0d (f : Fm) (n way a : Int) (g : Bool) (u : Nat) (w : World) (U : Bt w u 186 #[.int .i64 n, .int .i64 way, .int .i64 f.g.rad, .int .i64 f.g.digs, .int .i64 f.g.lo, .int .i64 f.g.hi, .bool f.g.grad, .int .u8 (famB f), .int .i64 a]) :
 Calls Tryz.prog 53 #[.pointer (some ⟨u, 0, none⟩), .bool g] w fun e w' => e = .returned (.agg #[.int .i64 1, .bool (g && decide (f.fam = 1)), .slice none 0 0, .int .i64 0]) ∧ Below w.heap.size w w' := by
 have hB : (famB f == 65) = decide (f.fam = 1) := by
  unfold famB
  by_cases h1 : f.fam = 1
  · simp [h1]
  · by_cases h2 : f.fam = 2 <;> simp [h1, h2]
 cases g
 · have I := Inv.startR w [u] [⟨186, (uS f n way a), true⟩] [] ⟨U, True.intro⟩ True.intro
   refine a0c [.p 0 0, .v (.bool false)] I Tryz.func53 ?_
   exact zrb I
 · generalize decide (f.fam = 1) = q at *
   have I := Inv.startR w [u] [⟨186, (uS f n way a), true⟩] [] ⟨U, True.intro⟩ True.intro
   refine a0c [.p 0 0, .v (.bool true)] I Tryz.func53 ?_
   refine zb I 11 ((famB f) == 65) (q) (hB) fun Al W I => zrb I
theorem k1q : Tryz.prog.underlying 229 = some (.map 5 3) := by kernel_rfl
def o0v : Array MapEntry := #[⟨.int .u8 65, .int .i64 4, 0⟩, ⟨.int .u8 66, .int .i64 1, 1⟩, ⟨.int .u8 67, .int .i64 5, 2⟩]
theorem l0b (f : Fm) (n way a : Int) (u : Nat) (w : World) (U : Bt w u 186 #[.int .i64 n, .int .i64 way, .int .i64 f.g.rad, .int .i64 f.g.digs, .int .i64 f.g.lo, .int .i64 f.g.hi, .bool f.g.grad, .int .u8 (famB f), .int .i64 a]) :
 Calls Tryz.prog 125 #[.pointer (some ⟨u, 0, none⟩)] w fun e w' => e = .returned (.agg #[.int .i64 (f.nothM.cls : Int), .bool false, .slice none 0 0, .int .i64 0]) ∧ Below w.heap.size w w' := by
 have hmm := @run_makeMap Tryz.prog
 go_enter Tryz.func125, Tryz.ntmps125
 have hs : (w.alloc (Obj.cells #[Value.int IntKind.i64 0, Value.bool false, Value.slice none 0 0, Value.int IntKind.i64 0] 61)).heap.size = w.heap.size + 1 := by show (w.heap.push _).size = _; exact Array.size_push ..
 have h1 := e0m (w := w.alloc (Obj.cells #[Value.int IntKind.i64 0, Value.bool false, Value.slice none 0 0, Value.int IntKind.i64 0] 61)) k1q Tryz.underlying5 #[] 0 65 (.int .i64 4) rfl
 have h2 := e0m (w := w.alloc (Obj.cells #[Value.int IntKind.i64 0, Value.bool false, Value.slice none 0 0, Value.int IntKind.i64 0] 61)) k1q Tryz.underlying5 #[⟨.int .u8 65, .int .i64 4, 0⟩] 1 66 (.int .i64 1) rfl
 have h3 := e0m (w := w.alloc (Obj.cells #[Value.int IntKind.i64 0, Value.bool false, Value.slice none 0 0, Value.int IntKind.i64 0] 61)) k1q Tryz.underlying5 #[⟨.int .u8 65, .int .i64 4, 0⟩, ⟨.int .u8 66, .int .i64 1, 1⟩] 2 67 (.int .i64 5) rfl
 rw [hs] at h1 h2 h3
 have U3 : ∀ es c, Bt ((w.alloc (Obj.cells #[Value.int IntKind.i64 0, Value.bool false, Value.slice none 0 0, Value.int IntKind.i64 0] 61)).alloc (Obj.map es c)) u 186 #[.int .i64 n, .int .i64 way, .int .i64 f.g.rad, .int .i64 f.g.digs, .int .i64 f.g.lo, .int .i64 f.g.hi, .bool f.g.grad, .int .u8 (famB f), .int .i64 a] := fun es c => U.past (((Below.refl _ _).alloc (Nat.le_refl _) _).alloc (by rw [hs]; omega) _)
 have hL := (U3 o0v 3).bx.c 7 (v := .int .u8 (famB f)) rfl
 have hM : ((w.alloc (Obj.cells #[Value.int IntKind.i64 0, Value.bool false, Value.slice none 0 0, Value.int IntKind.i64 0] 61)).alloc (Obj.map o0v 3)).heap[w.heap.size + 1]? = some (.map o0v 3) := by
  rw [← hs]; show ((World.alloc _ _).heap.push _)[_]? = _; exact Array.getElem?_push_size
 have hF : ∃ i, Instr.findNow (.int .u8) (.int .u8 (famB f)) o0v.toList 0 = some (some (i, .int .i64 (f.nothM.cls : Int))) := by
  unfold famB Fm.nothM
  by_cases h1 : f.fam = 1
  · rw [if_pos h1, if_pos h1]; exact ⟨0, rfl⟩
  · rw [if_neg h1, if_neg h1]
    by_cases h2 : f.fam = 2
    · rw [if_pos h2, if_pos h2]; exact ⟨1, rfl⟩
    · rw [if_neg h2, if_neg h2]; exact ⟨2, rfl⟩
 obtain ⟨i, hF⟩ := hF
 have hK := g0e k1q Tryz.underlying5 hM (famB f) hF
 simp only [o0v] at hL hK
 clear hM hF U3
 go_wp2_with fail
 have hC : Bt ((w.alloc (Obj.cells #[.int .i64 (f.nothM.cls : Int), .bool false, .slice none 0 0, .int .i64 0] 61)).alloc (Obj.map o0v 3)) w.heap.size 61 #[.int .i64 (f.nothM.cls : Int), .bool false, .slice none 0 0, .int .i64 0] := by
  show ((w.heap.push _).push _)[_]? = _
  rw [Array.getElem?_push_lt (by rw [Array.size_push]; omega)]
  simp
 simp only [o0v] at hC
 have ⟨b0, b1, b2, b3⟩ := hC.bx.e4
 refine bodyPost_ret (v := .agg #[.int .i64 (f.nothM.cls : Int), .bool false, .slice none 0 0, .int .i64 0]) (by simp [results, Tryz.results125, go_sem, b0, b1, b2, b3]) rfl ⟨rfl, ?_⟩
 refine ((Below.refl _ _).alloc (Nat.le_refl _) _).alloc ?_ _
 show _ ≤ (w.heap.push _).size
 rw [Array.size_push]; omega
def p1q (w : World) (v : Vl) (en : Ending) (w' : World) : Prop :=
 ∃ p c, en = .returned (.agg #[.int .i64 (v.cls : Int), .bool v.neg, .slice p (dig B32 v.d).length c, .int .i64 v.pow]) ∧ Own w' w.heap.size .u32 139 p c (dig B32 v.d) ∧ Below w.heap.size w w'
theorem g0s (f : Fm) (n way a : Int) (g : Bool) (u : Nat) (w : World) (U : Bt w u 186 #[.int .i64 n, .int .i64 way, .int .i64 f.g.rad, .int .i64 f.g.digs, .int .i64 f.g.lo, .int .i64 f.g.hi, .bool f.g.grad, .int .u8 (famB f), .int .i64 a]) (hd : 0 ≤ f.g.digs ∧ f.g.digs ≤ 1000) :
 Calls Tryz.prog 231 #[.pointer (some ⟨u, 0, none⟩), .bool g] w (p1q w ⟨2, g, 2 ^ (wid f.g * f.g.digs.toNat) - 1, f.g.hi⟩) := by
 have wp := b0g f.g
 have lu := U.lt
 have hmw : ((wid f.g * f.g.digs.toNat : Nat) : Int) = (wid f.g : Nat) * f.g.digs := by rw [Int.natCast_mul, Int.toNat_of_nonneg hd.1]
 have hmb : wid f.g * f.g.digs.toNat ≤ 4 * 1000 := Nat.mul_le_mul wp.2 (by omega)
 have l1 : (dig B32 1).length ≤ 1 := by rw [a0g a0b]; unfold B32; omega
 have l2 : (dig B32 (2 ^ (wid f.g * f.g.digs.toNat))).length ≤ 126 := a0u (n := wid f.g * f.g.digs.toNat + 1) (k := 126) (Nat.pow_lt_pow_right (a := 2) (by omega) (by omega)) (by omega)
 have h1 := Nat.one_le_two_pow (n := wid f.g * f.g.digs.toNat)
 have HW := fun W u hU => lHd (g1e f n way a u W hU)
 generalize wid f.g * f.g.digs.toNat = m at *
 generalize hx : 2 ^ m = x at *
 have HX := lHd hx
 clear hx
 have HM := lHd hmw
 clear hmw
 have I := Inv.startR w [u] [⟨186, (uS f n way a), true⟩] [] ⟨U, True.intro⟩ True.intro
 refine a0c [.p 0 0, .v (.bool g)] I Tryz.func231 ?_
 refine zq I (fun Al W I => (HW W _ (I.box 0 186 _)).out) fun Al W I => zd [] I fun Al W I => zk [1, 2, 3, 4, 5, 6] I fun I => zki 7 I .i64 (((wid f.g : Nat) : Int) * f.g.digs) ((m : Int)) ((by rw [HM.out]; exact IntWalk.i64_in _ (by rw [← HM.out]; omega))) fun I => zo 0 I fun I => zqo I (fun Al W I => have hzW := I.bel.size; sof 1 1 rfl (by omega) W) fun Al W p9 c9 I => zo 8 I fun I => zqo I (fun Al W I => have hzW := I.bel.size; sshl p9 _ c9 1 m x _ W I.fa.1.rd rfl (by omega) (by omega) rfl (by rw [HX.out]; omega)) fun Al W p17 c17 I => zo 9 I fun I => zqo I (fun Al W I => have hzW := I.bel.size; sof 1 1 rfl (by omega) W) fun Al W p18 c18 I => zo 10 I fun I => zqo I (fun Al W I => have hzW := I.bel.size; ssub p17 p18 _ _ c17 c18 x 1 (x - 1) W I.fa.2.1.rd I.fa.1.rd rfl rfl (by omega) (by omega) rfl) fun Al W p19 c19 I => zk [11] I fun I => zret I fun Al W I => ⟨p19, c19, rfl, I.fa.1.mono (by omega), I.below⟩
def m0k (f : Fm) (n way c : Int) (u : Nat) (w : World) (v : Vl) (en : Ending) (w' : World) : Prop :=
 ∃ p k, en = .returned (.agg #[.int .i64 (v.cls : Int), .bool v.neg, .slice p (dig B32 v.d).length k, .int .i64 v.pow]) ∧ Own w' w.heap.size .u32 139 p k (dig B32 v.d) ∧ Kp [u] w w' ∧ Bt w' u 186 #[.int .i64 n, .int .i64 way, .int .i64 f.g.rad, .int .i64 f.g.digs, .int .i64 f.g.lo, .int .i64 f.g.hi, .bool f.g.grad, .int .u8 (famB f), .int .i64 c]
theorem k1r (f : Fm) (n way a c : Int) (g : Bool) (u : Nat) (w : World) (U : Bt w u 186 #[.int .i64 n, .int .i64 way, .int .i64 f.g.rad, .int .i64 f.g.digs, .int .i64 f.g.lo, .int .i64 f.g.hi, .bool f.g.grad, .int .u8 (famB f), .int .i64 a]) (hd : 0 ≤ f.g.digs ∧ f.g.digs ≤ 1000) (hc : bits .or .i64 a 5 = c) (h2 : f.fam = 2) :
 Calls Tryz.prog 172 #[.pointer (some ⟨u, 0, none⟩), .bool g] w (m0k f n way c u w ⟨2, g, 2 ^ (wid f.g * f.g.digs.toNat) - 1, f.g.hi⟩) := by
 have hF : famB f = 66 := by unfold famB; rw [if_neg (by omega), if_pos h2]
 have HR := fun W u hU => lHd (c0s f n way a 5 c u W hU hc)
 have HG := fun W u hU => lHd (g0s f n way c g u W hU hd)
 generalize 2 ^ (wid f.g * f.g.digs.toNat) - 1 = m at *
 have I := Inv.startW w u 186 (uS f n way a) [] U True.intro True.intro
 refine a0c [.p 0 0, .v (.bool g)] I Tryz.func172 ?_
 refine zge I 0 186 (fun Al W I => (HR W _ (I.box 0 186 _)).out) fun Al V Iv _ _ kz => ?_
 rintro _ W ⟨rfl, hO, hB⟩
 refine ⟨_, rfl, kz _ (uS f n way c) _ hO hB fun I => ?_⟩
 refine zb I 13 ((famB f) == 66) (true) (beq_iff_eq.2 hF) fun Al W I => zqo I (fun Al W I => (HG W _ (I.box 0 186 _)).out) fun Al W p16 c16 I => zret I fun Al W I => ⟨p16, c16, rfl, I.fa.1.mono (by omega), I.bel, I.boxE 186 _⟩
theorem d0q {f : Fm} {n way c : Int} {u k : Nat} {g : Bool} {w w' : World} {en : Ending} (h : en = .returned (.agg #[.int .i64 (k : Int), .bool g, .slice none 0 0, .int .i64 0])) (hk : Kp [u] w w') (hb : Bt w' u 186 #[.int .i64 n, .int .i64 way, .int .i64 f.g.rad, .int .i64 f.g.digs, .int .i64 f.g.lo, .int .i64 f.g.hi, .bool f.g.grad, .int .u8 (famB f), .int .i64 c]) : m0k f n way c u w ⟨k, g, 0, 0⟩ en w' := by
 refine ⟨none, 0, ?_, ?_, hk, hb⟩
 · rw [h, a0e]; rfl
 · show Own _ _ _ _ _ _ (dig B32 0); rw [a0e]; exact Own.nil _ _ _ _
theorem k1s (f : Fm) (n way a c : Int) (g : Bool) (u : Nat) (w : World) (U : Bt w u 186 #[.int .i64 n, .int .i64 way, .int .i64 f.g.rad, .int .i64 f.g.digs, .int .i64 f.g.lo, .int .i64 f.g.hi, .bool f.g.grad, .int .u8 (famB f), .int .i64 a]) (hc : bits .or .i64 a 5 = c) (h1 : f.fam ≠ 1) (h2 : f.fam ≠ 2) :
 Calls Tryz.prog 172 #[.pointer (some ⟨u, 0, none⟩), .bool g] w (m0k f n way c u w ⟨f.nothM.cls, false, 0, 0⟩) := by
 have hF : famB f = 67 := by unfold famB; rw [if_neg h1, if_neg h2]
 have HR := fun W u hU => lHd (c0s f n way a 5 c u W hU hc)
 have HG := fun W u hU => lHd (l0b f n way c u W hU)
 generalize f.nothM.cls = k at *
 have I := Inv.startW w u 186 (uS f n way a) [] U True.intro True.intro
 refine a0c [.p 0 0, .v (.bool g)] I Tryz.func172 ?_
 refine zge I 0 186 (fun Al W I => (HR W _ (I.box 0 186 _)).out) fun Al V Iv _ _ kz => ?_
 rintro _ W ⟨rfl, hO, hB⟩
 refine ⟨_, rfl, kz _ (uS f n way c) _ hO hB fun I => ?_⟩
 refine zb I 13 ((famB f) == 66) (false) (bFn (by rw [hF]; decide)) fun Al W I => zb I 18 ((famB f) == 67) (true) (beq_iff_eq.2 hF) fun Al W I => zq I (fun Al W I => (HG W _ (I.box 0 186 _)).out) fun Al W I => zret I fun Al W I => d0q rfl I.bel (I.boxE 186 _)
theorem i0h (g : Bool) (w : World) : Calls Tryz.prog 179 #[.bool g] w fun e w' => e = .returned (.agg #[.int .i64 3, .bool g, .slice none 0 0, .int .i64 0]) ∧ Below w.heap.size w w' := by
 have I := Inv.start w [] True.intro
 refine a0c [.v (.bool g)] I Tryz.func179 ?_
 exact zrb I
theorem o0w (k : Nat) (g : Bool) (p : OA) (l c : Nat) (pw : Int) (w : World) : Calls Tryz.prog 123 #[.agg #[.int .i64 (k : Int), .bool g, .slice p l c, .int .i64 pw]] w fun e w' => e = .returned (.bool (decide (k = 4) || decide (k = 5))) ∧ Below w.heap.size w w' := by
 have e4 : ((k : Int) == 4) = decide (k = 4) := by rw [Bool.eq_iff_iff]; simp; omega
 have e5 : ((k : Int) == 5) = decide (k = 5) := by rw [Bool.eq_iff_iff]; simp; omega
 generalize decide (k = 5) = q at *
 by_cases h : k = 4
 · rw [decide_eq_true h] at e4 ⊢
   have I := Inv.start w [] True.intro
   refine a0c [.v (.agg #[.int .i64 (k : Int), .bool g, .slice p l c, .int .i64 pw])] I Tryz.func123 ?_
   refine zb I 5 ((k : Int) == 4) (true) (e4) fun Al W I => zret I (v := fun Al => .bool true) fun Al W I => ⟨by rw [Bool.true_or], I.below⟩
 · rw [decide_eq_false h] at e4 ⊢
   have I := Inv.start w [] True.intro
   refine a0c [.v (.agg #[.int .i64 (k : Int), .bool g, .slice p l c, .int .i64 pw])] I Tryz.func123 ?_
   refine zb I 5 ((k : Int) == 4) (false) (e4) fun Al W I => zb I 9 ((k : Int) == 5) (q) (e5) fun Al W I => zret I (v := fun Al => .bool q) fun Al W I => ⟨by rw [Bool.false_or], I.below⟩
theorem a0f (k : Nat) (g : Bool) (p : OA) (l c : Nat) (pw : Int) (w : World) : Calls Tryz.prog 57 #[.agg #[.int .i64 (k : Int), .bool g, .slice p l c, .int .i64 pw]] w fun e w' => e = .returned (.bool (decide (k = 3))) ∧ Below w.heap.size w w' := by
 have e : ((k : Int) == 3) = decide (k = 3) := by rw [Bool.eq_iff_iff]; simp; omega
 have I := Inv.start w [] True.intro
 refine a0c [.v (.agg #[.int .i64 (k : Int), .bool g, .slice p l c, .int .i64 pw])] I Tryz.func57 ?_
 exact zret I fun Al W I => ⟨congrArg (fun b => Ending.returned (.bool b)) e, I.below⟩
theorem b0u (k : Nat) (g : Bool) (p : OA) (l c : Nat) (pw : Int) (w : World) : Calls Tryz.prog 177 #[.agg #[.int .i64 (k : Int), .bool g, .slice p l c, .int .i64 pw]] w fun e w' => e = .returned (.bool (decide (k = 1))) ∧ Below w.heap.size w w' := by
 have e : ((k : Int) == 1) = decide (k = 1) := by rw [Bool.eq_iff_iff]; simp; omega
 have I := Inv.start w [] True.intro
 refine a0c [.v (.agg #[.int .i64 (k : Int), .bool g, .slice p l c, .int .i64 pw])] I Tryz.func177 ?_
 exact zret I fun Al W I => ⟨congrArg (fun b => Ending.returned (.bool b)) e, I.below⟩
end Go.Proofs.YtgbbhlginbmghaaGreatDoor
namespace Go.Slip
def LL (bs : List Nat) (i : Nat) : List Nat := bs.take i ++ List.replicate (bs.length - i) 0
theorem o0x (bs : List Nat) (i : Nat) : (LL bs i).length = bs.length := by unfold LL; rw [List.length_append, List.length_take, List.length_replicate]; omega
theorem p1r (bs : List Nat) : LL bs 0 = List.replicate bs.length 0 := by unfold LL; rw [List.take_zero]; rfl
theorem t1e (bs : List Nat) : LL bs bs.length = bs := by unfold LL; rw [List.take_length, Nat.sub_self]; simp
theorem g1f (bs : List Nat) (i j : Nat) : dg (LL bs i) j = if j < i then dg bs j else 0 := by
 unfold LL
 by_cases h : j < (bs.take i).length
 · rw [t0l h]
   have h2 : j < i := by rw [List.length_take] at h; omega
   rw [f0k h2, if_pos h2]
 · rw [t0m (by omega), d0c]
   split
   · rw [d0h]
     rw [List.length_take] at h
     omega
   · rfl
theorem t1f (bs : List Nat) {i : Nat} (h : i < bs.length) : (LL bs i).set i (dg bs i) = LL bs (i + 1) := by
 refine q0g (by rw [List.length_set, o0x, o0x]) fun j hj => ?_
 rw [List.length_set, o0x] at hj
 by_cases e : i = j
 · subst e
   rw [b0k (by rw [o0x]; exact h), g1f, if_pos (by omega)]
 · rw [b0p e, g1f, g1f]
   by_cases k : j < i
   · rw [if_pos k, if_pos (by omega)]
   · rw [if_neg k, if_neg (by omega)]
theorem p1s (bs : List Nat) {i : Nat} (h0 : dg bs i = 0) : LL bs i = LL bs (i + 1) := by
 refine q0g (by rw [o0x, o0x]) fun j _ => ?_
 rw [g1f, g1f]
 by_cases e : j = i
 · subst e
   rw [if_neg (by omega), if_pos (by omega), h0]
 · by_cases k : j < i
   · rw [if_pos k, if_pos (by omega)]
   · rw [if_neg k, if_neg (by omega)]
theorem g1g (n : Nat) : IntKind.u8.wrap (n : Int) = ((n % 256 : Nat) : Int) := by
 simp [IntKind.wrap, IntKind.signed, IntKind.bits]
theorem g1h (n : Nat) : dg (dig B32 n) 0 = n % 4294967296 := by
 rcases Nat.eq_zero_or_pos n with h | h
 · subst h; rw [a0e]; rfl
 · rw [e0e a0b h]; rfl
end Go.Slip
namespace Go.Proofs.YtgbbhlginbmghaaGreatDoor
open Go.RowKit Go.Slip
theorem z0f (f : Fm) (g : Bool) (e x : Nat) (p : OA) (c : Nat) (w : World) (G : c0g f) (hp : Rd w .u32 p (dig B32 x)) (he : e < 2 ^ f.E) (hx : x < 2 ^ f.F) :
 Calls Tryz.prog 171 #[(fV f), .agg #[.bool g, .int .i64 (e : Int), .slice p (dig B32 x).length c]] w fun en w' => en = .returned (.string (a0d (f.str g e x))) ∧ Below w.heap.size w w' := by
 have z1 := G.sz
 have z2 := G.e2
 have z3 := G.f2
 have z4 := G.bits
 have hlt := n1f G (neg := g) he hx
 have hxl := a0u hx (k := 2) (by omega)
 have hT : g.toNat * 2 ^ f.E + e < 2 ^ 16 := by
  have h1 : 2 ^ f.E ≤ 2 ^ 15 := Nat.pow_le_pow_right (by omega) (by omega)
  cases g <;> simp <;> omega
 have hpw : 2 ^ f.E ≤ 2 ^ 15 := Nat.pow_le_pow_right (by omega) (by omega)
 have hsh := r0v (E := f.E) (by omega)
 have hor := a1u (x := e) (E := f.E) he (by omega)
 have h80 : f.pat g e x < 2 ^ 80 := Nat.lt_of_lt_of_le hlt (Nat.pow_le_pow_right (by omega) (by omega))
 unfold Fm.str
 have hpe : f.pat g e x = (g.toNat * 2 ^ f.E + e) * 2 ^ f.F + x := rfl
 have hord := fun (W : World) (base : Nat) (p : OA) (c : Nat) (xs : List Nat) h1 h2 => f1l f base p f.size c xs W G h1 h2.symm h2
 generalize hNN : f.pat g e x = NN at *
 have hbl : (d0y NN f.size).length = f.size := d0v _ _
 have hdg := fun i h => u0f f.size NN i h
 have hbs := fun i h => t1f (d0y NN f.size) (i := i) h
 have hbz := fun i h => p1s (d0y NN f.size) (i := i) h
 have hball := t1e (d0y NN f.size)
 have hb0 := p1r (d0y NN f.size)
 have hLl := o0x (d0y NN f.size)
 rw [hbl] at hball hb0
 generalize d0y NN f.size = bs at *
 generalize h2E : 2 ^ f.E = P at *
 have hNl := a0u h80 (k := 3) (by omega)
 have hTl : (dig B32 ((g.toNat * P + e) * 2 ^ f.F)).length ≤ 3 := a0u (n := 80) (by omega) (by omega)
 have hQl : ∀ N, (dig B32 (NN / 2 ^ N)).length ≤ 3 := fun N => a0u (n := 80) (Nat.lt_of_le_of_lt (Nat.div_le_self _ _) h80) (by omega)
 have HSH := lHd hsh
 have HOR := lHd hor
 have HPE := lHd hpe
 have HB0 := lHd hb0
 clear hsh hor hpe hb0 hlt h80 hNN h2E
 let aA : Box := ⟨98, [.v (.int .i64 (f.size : Int)), .v (.int .i64 (f.E : Int)), .v (.int .i64 (f.F : Int)), .v (.int .i64 f.g.rad), .v (.int .i64 f.g.digs), .v (.int .i64 f.g.lo), .v (.int .i64 f.g.hi), .v (.bool f.g.grad), .v (.bool f.hid), .v (.bool f.inf), .v (.bool f.res), .v (.func (.func (ordF f)) #[] #[])], false⟩
 let aB : Box := ⟨197, [.v (.bool g), .v (.int .i64 (e : Int)), .v (.slice p (dig B32 x).length c)], false⟩
 let aC : SV := .v ((fV f))
 let aD : SV := .v (.agg #[.bool g, .int .i64 (e : Int), .slice p (dig B32 x).length c])
 have I := Inv.start w [rdF .u32 p (dig B32 x)] ⟨hp, True.intro⟩
 refine a0c [.v ((fV f)), .v (.agg #[.bool g, .int .i64 (e : Int), .slice p (dig B32 x).length c])] I Tryz.func171 ?_
 rcases bTF (g) with f13 | f13
 · refine zb I 13 (g) (true) (f13) fun Al W I => zbin I 17 _ (fun _ _ _ _ _ => n0y .i64 (1) .i64 (f.E : Int) ((P : Int)) (by omega) ((HSH.out))) fun Al W I => zbin I 18 _ (fun _ _ _ _ _ => m0h .i64 (e : Int) ((P : Int)) (((P + e : Nat) : Int)) ((HOR.out))) fun Al W I => zd [] I fun Al W I => zk [0, 2, 3, 5, 6] I fun I => zo 1 I fun I => zg I (fun Al W I => have hzW := I.bel.size; sof ((P + e : Nat) : Int) (g.toNat * P + e) (by rw [f13, Bool.toNat_true, Nat.one_mul]) (by omega) W) fun Al V Iv _ hB _ kz => ?_
   rintro _ W ⟨p20, c20, rfl, o20, hb⟩
   refine ⟨_, rfl, kz _ _ hb fun I => ?_⟩
   have I := I.own o20
   refine zo 4 I fun I => zg I (fun Al W I => have hzW := I.bel.size; sshl p20 _ c20 (g.toNat * P + e) f.F ((g.toNat * P + e) * 2 ^ f.F) _ W I.fa.1.rd rfl (by have := a0u hT (k := 1) (by omega); omega) (by omega) rfl rfl) fun Al V Iv _ hB _ kz => ?_
   rintro _ W ⟨p23, c23, rfl, o23, hb⟩
   refine ⟨_, rfl, kz _ _ hb fun I => ?_⟩
   have I := I.own o23
   refine zo 7 I fun I => zg I (fun Al W I => have hzW := I.bel.size; sadd p23 p _ _ c23 c ((g.toNat * P + e) * 2 ^ f.F) x NN W I.fa.1.rd I.fa.2.2.1 rfl rfl (by omega) (by omega) HPE.out.symm) fun Al V Iv _ hB _ kz => ?_
   rintro _ W ⟨p26, c26, rfl, o26, hb⟩
   refine ⟨_, rfl, kz _ _ hb fun I => ?_⟩
   have I := I.own o26
   refine zk [8] I fun I => zmk I 29 j0x f.size (vB (LL bs 0)) (by omega) (by rw [HB0.out]; exact n1j _) fun Al W p29 c29 I => h0u I (fun gk fr bx gs => ∃ (U900 : Nat → Value) (i : Nat) (L : List Nat), fr = (aC :: aD :: .p 0 0 :: .p 1 0 :: .v (Go.Value.string (ByteArray.mk #[])) :: .v (vI ((P + e : Nat) : Int)) :: .v (vS (dig B32 NN) p26 c26) :: .v (.slice p29 f.size c29) :: sw U900 8 5 (.v (.bool true) :: sw U900 14 17 (.v (vI (f.size : Int)) :: .v (vI (i : Int)) :: sw U900 33 27 [])) : List SV) ∧ bx = [aA, aB] ∧ gs = [b0z w.heap.size 5 p29 c29 (vB L), ownF w.heap.size .u32 139 p26 c26 (dig B32 NN)] ∧ (L = LL bs i) ∧ (gk + i = f.size)) f.size (fun Al W U I => ⟨_, ⟨U, 0, LL bs 0, rfl, rfl, rfl, rfl, (by omega)⟩, I.pick [0, 1]⟩) ?_
   rintro J0 gk0 _ _ _ ⟨U900, i, L, rfl, rfl, rfl, hL, hgk⟩ hJ0 Al W I
   rcases bTF (decide ((i : Int) < (f.size : Int))) with f33 | f33
   · refine zb I 33 (decide ((i : Int) < (f.size : Int))) (true) (f33) fun Al W I => zi I 38 .i64 ((f.size : Int) - 1) (((f.size - 1 : Nat) : Int)) ((by rw [show ((f.size : Int) - 1) = ((f.size - 1 : Nat) : Int) by omega]; exact iwo)) fun Al W I => zi I 40 .i64 (((f.size - 1 : Nat) : Int) - (i : Int)) (((f.size - 1 - i : Nat) : Int)) ((by rw [show (((f.size - 1 : Nat) : Int) - (i : Int)) = ((f.size - 1 - i : Nat) : Int) by have := oTr f33; omega]; exact iwo)) fun Al W I => zi I 41 .i64 ((8 : Int) * ((f.size - 1 - i : Nat) : Int)) (((8 * (f.size - 1 - i) : Nat) : Int)) ((by rw [show ((8 : Int) * ((f.size - 1 - i : Nat) : Int)) = ((8 * (f.size - 1 - i) : Nat) : Int) by omega]; exact iwo)) fun Al W I => zqo I (fun Al W I => have hzW := I.bel.size; sshr p26 _ c26 NN (8 * (f.size - 1 - i)) (NN / 2 ^ (8 * (f.size - 1 - i))) _ W I.fa.2.1.rd rfl (by have := I.fa.2.1.le_cap; omega) (by omega) (by omega) rfl rfl) fun Al W p42 c42 I => ?_
     have hi := oTr f33
     have hdi := hdg i (by omega)
     have hq0 := a0h a0b (NN / 2 ^ (8 * (f.size - 1 - i)))
     have hLf : L.length = f.size := by rw [hL, hLl, hbl]
     rcases bTF (decide ((((dig B32 (NN / 2 ^ (8 * (f.size - 1 - i)))).length : Nat) : Int) > 0)) with f45 | f45
     · refine zb I 45 (decide ((((dig B32 (NN / 2 ^ (8 * (f.size - 1 - i)))).length : Nat) : Int) > 0)) (true) (f45) fun Al W I => zx I 49 (fun _ => .pointer (some (at_ p42 0))) (fun Al W I => d0x (c := c42) (m := 0) f1y I.fa.1.rd.solid (by have := oTr f45; omega)) fun Al W I => zx I 50 (fun _ => .int .u32 ((dg (dig B32 (NN / 2 ^ (8 * (f.size - 1 - i)))) 0 : Nat) : Int)) (fun Al W I => u0z I.fa.1.rd k1b (by have := oTr f45; omega)) fun Al W I => zi I 51 .u8 ((dg (dig B32 (NN / 2 ^ (8 * (f.size - 1 - i)))) 0 : Nat) : Int) (((dg bs i : Nat) : Int)) ((by rw [g1g, g1h, hdi]; congr 1; exact Nat.mod_mod_of_dvd _ (by decide))) fun Al W I => zx I 52 (fun _ => .pointer (some (at_ p29 i))) (fun Al W I => d0x (c := c29) j0x (by have h := I.fa.2.1.rd.solid; rw [q0j, hLf] at h; exact h) (by omega)) fun Al W I => ?_
       have I := I.pick [1, 0, 2]
       refine zput I [1] j0x i (.int .u8 ((dg bs i : Nat) : Int)) (by rw [q0j, hLf]; omega) (by rw [n1k, hL, hbs i (by omega)]) (us := vB (LL bs (i + 1))) (fun Al W I h9 => ⟨I.fa.1.apart I.fa.2.2.1 (by kernel_rfl) h9, True.intro⟩) fun Al W I => zi I 53 .i64 ((i : Int) + 1) (((i + 1 : Nat) : Int)) ((by rw [show ((i : Int) + 1) = ((i + 1 : Nat) : Int) by omega]; exact iwo)) fun Al W I => a0i I J0 fun Al W U I => hJ0 (gk0 - 1) _ _ _ _ _ ((by omega)) ⟨U, i + 1, LL bs (i + 1), rfl, rfl, rfl, rfl, (by omega)⟩ (I.pick [0, 1])
     refine zb I 45 (decide ((((dig B32 (NN / 2 ^ (8 * (f.size - 1 - i)))).length : Nat) : Int) > 0)) (false) (f45) fun Al W I => zi I 53 .i64 ((i : Int) + 1) (((i + 1 : Nat) : Int)) ((by rw [show ((i : Int) + 1) = ((i + 1 : Nat) : Int) by omega]; exact iwo)) fun Al W I => a0i I J0 fun Al W U I => hJ0 (gk0 - 1) _ _ _ _ _ ((by omega)) ⟨U, i + 1, L, rfl, rfl, rfl, (by rw [hL]; exact hbz i (by rw [hdi, hq0.1 (by have := oFa f45; omega)])), (by omega)⟩ (I.pick [1, 2])
   refine zb I 33 (decide ((i : Int) < (f.size : Int))) (false) (f33) fun Al W I => ?_
   have hLb : L = bs := by rw [hL, show i = f.size by have := oFa f33; omega, hball]
   have hps : p29.isSome = true := (I.fa.1.rd.solid (by rw [q0j, hLb, hbl]; omega)).1
   refine zsp (g := wrF w.heap.size .u8 p29 (ordL f.ord bs)) I [] (blk p29) (f1k f) (fun Al W I => hord W w.heap.size p29 c29 bs (by rw [← hLb]; exact (n1l I.fa.1).wr) hbl) (fun Al W I => ⟨⟨hps, rfl⟩, (I.fa.1.blk_lt hps).1, True.intro⟩) (fun _ h => ⟨hps, h.2⟩) fun Al W I => zx I 59 (fun _ => .string (a0d (ordL f.ord bs))) (fun Al W I => n1i (n := f.size) (c := c29) u0v f1q uStr I.fa.1.rd (by rw [c0i, hbl])) fun Al W I => zrb I
 refine zb I 13 (g) (false) (f13) fun Al W I => zd [] I fun Al W I => zk [0, 2, 3, 5, 6] I fun I => zo 1 I fun I => zg I (fun Al W I => have hzW := I.bel.size; sof (e : Int) (g.toNat * P + e) (by rw [f13, Bool.toNat_false, Nat.zero_mul, Nat.zero_add]) (by omega) W) fun Al V Iv _ hB _ kz => ?_
 rintro _ W ⟨p20, c20, rfl, o20, hb⟩
 refine ⟨_, rfl, kz _ _ hb fun I => ?_⟩
 have I := I.own o20
 refine zo 4 I fun I => zg I (fun Al W I => have hzW := I.bel.size; sshl p20 _ c20 (g.toNat * P + e) f.F ((g.toNat * P + e) * 2 ^ f.F) _ W I.fa.1.rd rfl (by have := a0u hT (k := 1) (by omega); omega) (by omega) rfl rfl) fun Al V Iv _ hB _ kz => ?_
 rintro _ W ⟨p23, c23, rfl, o23, hb⟩
 refine ⟨_, rfl, kz _ _ hb fun I => ?_⟩
 have I := I.own o23
 refine zo 7 I fun I => zg I (fun Al W I => have hzW := I.bel.size; sadd p23 p _ _ c23 c ((g.toNat * P + e) * 2 ^ f.F) x NN W I.fa.1.rd I.fa.2.2.1 rfl rfl (by omega) (by omega) HPE.out.symm) fun Al V Iv _ hB _ kz => ?_
 rintro _ W ⟨p26, c26, rfl, o26, hb⟩
 refine ⟨_, rfl, kz _ _ hb fun I => ?_⟩
 have I := I.own o26
 refine zk [8] I fun I => zmk I 29 j0x f.size (vB (LL bs 0)) (by omega) (by rw [HB0.out]; exact n1j _) fun Al W p29 c29 I => h0u I (fun gk fr bx gs => ∃ (U900 : Nat → Value) (i : Nat) (L : List Nat), fr = (aC :: aD :: .p 0 0 :: .p 1 0 :: .v (Go.Value.string (ByteArray.mk #[])) :: .v (vI (e : Int)) :: .v (vS (dig B32 NN) p26 c26) :: .v (.slice p29 f.size c29) :: sw U900 8 5 (.v (.bool false) :: sw U900 14 17 (.v (vI (f.size : Int)) :: .v (vI (i : Int)) :: sw U900 33 27 [])) : List SV) ∧ bx = [aA, aB] ∧ gs = [b0z w.heap.size 5 p29 c29 (vB L), ownF w.heap.size .u32 139 p26 c26 (dig B32 NN)] ∧ (L = LL bs i) ∧ (gk + i = f.size)) f.size (fun Al W U I => ⟨_, ⟨U, 0, LL bs 0, rfl, rfl, rfl, rfl, (by omega)⟩, I.pick [0, 1]⟩) ?_
 rintro J0 gk0 _ _ _ ⟨U900, i, L, rfl, rfl, rfl, hL, hgk⟩ hJ0 Al W I
 rcases bTF (decide ((i : Int) < (f.size : Int))) with f33 | f33
 · refine zb I 33 (decide ((i : Int) < (f.size : Int))) (true) (f33) fun Al W I => zi I 38 .i64 ((f.size : Int) - 1) (((f.size - 1 : Nat) : Int)) ((by rw [show ((f.size : Int) - 1) = ((f.size - 1 : Nat) : Int) by omega]; exact iwo)) fun Al W I => zi I 40 .i64 (((f.size - 1 : Nat) : Int) - (i : Int)) (((f.size - 1 - i : Nat) : Int)) ((by rw [show (((f.size - 1 : Nat) : Int) - (i : Int)) = ((f.size - 1 - i : Nat) : Int) by have := oTr f33; omega]; exact iwo)) fun Al W I => zi I 41 .i64 ((8 : Int) * ((f.size - 1 - i : Nat) : Int)) (((8 * (f.size - 1 - i) : Nat) : Int)) ((by rw [show ((8 : Int) * ((f.size - 1 - i : Nat) : Int)) = ((8 * (f.size - 1 - i) : Nat) : Int) by omega]; exact iwo)) fun Al W I => zqo I (fun Al W I => have hzW := I.bel.size; sshr p26 _ c26 NN (8 * (f.size - 1 - i)) (NN / 2 ^ (8 * (f.size - 1 - i))) _ W I.fa.2.1.rd rfl (by have := I.fa.2.1.le_cap; omega) (by omega) (by omega) rfl rfl) fun Al W p42 c42 I => ?_
   have hi := oTr f33
   have hdi := hdg i (by omega)
   have hq0 := a0h a0b (NN / 2 ^ (8 * (f.size - 1 - i)))
   have hLf : L.length = f.size := by rw [hL, hLl, hbl]
   rcases bTF (decide ((((dig B32 (NN / 2 ^ (8 * (f.size - 1 - i)))).length : Nat) : Int) > 0)) with f45 | f45
   · refine zb I 45 (decide ((((dig B32 (NN / 2 ^ (8 * (f.size - 1 - i)))).length : Nat) : Int) > 0)) (true) (f45) fun Al W I => zx I 49 (fun _ => .pointer (some (at_ p42 0))) (fun Al W I => d0x (c := c42) (m := 0) f1y I.fa.1.rd.solid (by have := oTr f45; omega)) fun Al W I => zx I 50 (fun _ => .int .u32 ((dg (dig B32 (NN / 2 ^ (8 * (f.size - 1 - i)))) 0 : Nat) : Int)) (fun Al W I => u0z I.fa.1.rd k1b (by have := oTr f45; omega)) fun Al W I => zi I 51 .u8 ((dg (dig B32 (NN / 2 ^ (8 * (f.size - 1 - i)))) 0 : Nat) : Int) (((dg bs i : Nat) : Int)) ((by rw [g1g, g1h, hdi]; congr 1; exact Nat.mod_mod_of_dvd _ (by decide))) fun Al W I => zx I 52 (fun _ => .pointer (some (at_ p29 i))) (fun Al W I => d0x (c := c29) j0x (by have h := I.fa.2.1.rd.solid; rw [q0j, hLf] at h; exact h) (by omega)) fun Al W I => ?_
     have I := I.pick [1, 0, 2]
     refine zput I [1] j0x i (.int .u8 ((dg bs i : Nat) : Int)) (by rw [q0j, hLf]; omega) (by rw [n1k, hL, hbs i (by omega)]) (us := vB (LL bs (i + 1))) (fun Al W I h9 => ⟨I.fa.1.apart I.fa.2.2.1 (by kernel_rfl) h9, True.intro⟩) fun Al W I => zi I 53 .i64 ((i : Int) + 1) (((i + 1 : Nat) : Int)) ((by rw [show ((i : Int) + 1) = ((i + 1 : Nat) : Int) by omega]; exact iwo)) fun Al W I => a0i I J0 fun Al W U I => hJ0 (gk0 - 1) _ _ _ _ _ ((by omega)) ⟨U, i + 1, LL bs (i + 1), rfl, rfl, rfl, rfl, (by omega)⟩ (I.pick [0, 1])
   refine zb I 45 (decide ((((dig B32 (NN / 2 ^ (8 * (f.size - 1 - i)))).length : Nat) : Int) > 0)) (false) (f45) fun Al W I => zi I 53 .i64 ((i : Int) + 1) (((i + 1 : Nat) : Int)) ((by rw [show ((i : Int) + 1) = ((i + 1 : Nat) : Int) by omega]; exact iwo)) fun Al W I => a0i I J0 fun Al W U I => hJ0 (gk0 - 1) _ _ _ _ _ ((by omega)) ⟨U, i + 1, L, rfl, rfl, rfl, (by rw [hL]; exact hbz i (by rw [hdi, hq0.1 (by have := oFa f45; omega)])), (by omega)⟩ (I.pick [1, 2])
 refine zb I 33 (decide ((i : Int) < (f.size : Int))) (false) (f33) fun Al W I => ?_
 have hLb : L = bs := by rw [hL, show i = f.size by have := oFa f33; omega, hball]
 have hps : p29.isSome = true := (I.fa.1.rd.solid (by rw [q0j, hLb, hbl]; omega)).1
 refine zsp (g := wrF w.heap.size .u8 p29 (ordL f.ord bs)) I [] (blk p29) (f1k f) (fun Al W I => hord W w.heap.size p29 c29 bs (by rw [← hLb]; exact (n1l I.fa.1).wr) hbl) (fun Al W I => ⟨⟨hps, rfl⟩, (I.fa.1.blk_lt hps).1, True.intro⟩) (fun _ h => ⟨hps, h.2⟩) fun Al W I => zx I 59 (fun _ => .string (a0d (ordL f.ord bs))) (fun Al W I => n1i (n := f.size) (c := c29) u0v f1q uStr I.fa.1.rd (by rw [c0i, hbl])) fun Al W I => zrb I
theorem _root_.Go.Slip.Bx.b3 {w : World} {b : Nat} {v0 v1 v2 : Value} (h : Bx w b #[v0, v1, v2]) : Box3 w b v0 v1 v2 :=
 ⟨h.e3.1, h.e3.2.1, h.e3.2.2, h.f 0, h.f 1, h.f 2, h.lt⟩
structure Pin where
 g : Bool
 p : OA
 c : Nat
 xs : List Nat
 k : Int
 x : Bool
 o : Bool
 u : Bool
structure InP (w : World) (a : Pin) : Prop where
 rd : Rd w .u32 a.p a.xs
 cap : a.xs.length ≤ a.c
 len : a.xs.length ≤ 9223372036854775807
 lt : ∀ x ∈ a.xs, x < B32
theorem InP.past {w w' : World} {a : Pin} (h : InP w a) (hb : Below w.heap.size w w') : InP w' a := ⟨h.rd.past hb, h.cap, h.len, h.lt⟩
theorem b1t (g : Bool) (p : OA) (n c : Nat) (e : Int) (w : World) :
 Calls Tryz.prog 229 #[.agg #[.bool g, .slice p n c, .int .i64 e]] w fun en w' => ∃ q d, en = .returned (.agg #[.bool g, .slice p n c, .slice q (dig B32 1).length d, .int .i64 e]) ∧ Own w' w.heap.size .u32 139 q d (dig B32 1) ∧ Below w.heap.size w w' := by
 go_enter Tryz.func229, Tryz.ntmps229
 go_wp2_with fail
 refine o1f (fun W1 hb1 hz1 A R => ?_)
 have hs1 := hb1
 have hzd : W1.drew.heap.size = W1.heap.size := rfl
 have HZD := lHd hzd
 clear hzd
 go_region_held3 (fun w' => w'.cell? ⟨w.heap.size, 0, none⟩ = some (.bool g) ∧ w'.cell? ⟨w.heap.size, 1, none⟩ = some (.slice p n c) ∧ w'.cell? ⟨w.heap.size, 2, none⟩ = some (.int .i64 e))
  (first
    | with_reducible exact A.e3
    | with_reducible exact A.drew.e3
    | with_reducible exact (A.drew.past hbx).e3
    | with_reducible exact ((A.drew.past hbx).only (r1r _ _ _ _ _ _) (by omega)).e3)
  (first
    | (go_at_call 45; ((with_reducible refine (x0h _).mono ?_)); rintro ex wx ⟨px, cx, rfl, hox, hbx⟩; (have RR := R.drew.past hbx); obtain ⟨R_0, R_1, R_2, R_3⟩ := RR.e4; (have R_f0 := RR.f 0); (have R_f1 := RR.f 1); (have R_f2 := RR.f 2); (have R_f3 := RR.f 3)))
 all_goals (go_wp2_with fail)
 refine bodyPost_ret (v := .agg #[.bool g, .slice p n c, .slice px (dig B32 1).length cx, .int .i64 e]) (by simp [results, Tryz.results229, go_sem, R_0, R_1, R_2, R_3]) rfl ?_
 have hzd := HZD.out
 have hO := r1r wx (w.heap.size + 1) (.bool g) (.slice p n c) (.slice px (dig B32 1).length cx) (.int .i64 e)
 have hz := hs1.size
 exact ⟨px, cx, rfl, (hox.only hO (fun h => by have := (hox.blk_lt h).1; omega)).mono (by omega), (hs1.drew.trans (hbx.mono hz)).trans (hO.below (by omega))⟩
theorem q0n (s : Bool) (p : OA) (c : Nat) (e : Int) (m : Nat) (g : Gd) (w : World) (hp : Rd w .u32 p (dig B32 m)) (hl : (dig B32 m).length ≤ 100000) (he : -1000000 ≤ e ∧ e ≤ 1000000) (G : f0c g) :
 Calls Tryz.prog 167 #[.agg #[.bool s, .slice p (dig B32 m).length c, .int .i64 e], .agg #[.int .i64 g.rad, .int .i64 g.digs, .int .i64 g.lo, .int .i64 g.hi, .bool g.grad]] w fun en w' => en = .returned (.bool (h0y ⟨s, m, e⟩ g)) ∧ Below w.heap.size w w' := by
 by_cases h0 : m = 0
 · have hk : h0y ⟨s, m, e⟩ g = true := by unfold h0y; rw [if_pos h0]
   have HS := lHd (show f0a ⟨s, m, e⟩ = 0 by unfold f0a; rw [if_pos h0])
   rw [hk]
   clear hk h0
   go_enter Tryz.func167, Tryz.ntmps167
   go_wp2_with fail
   refine p0w (fun W1 hb1 hz1 A B => ?_)
   have hs1 := hb1
   ((with_reducible refine (d0o s p _ c e m _ rfl).mono ?_))
   rintro e2 w2 ⟨rfl, hb2⟩
   rw [HS.out]
   go_wp2
   go_ret
   exact ⟨rfl, hs1.trans (hb2.mono hs1.size)⟩
 · have hsg := k0z (g := s) (e := e) (show 0 < m by omega)
   have wp := b0g g
   have hd1 := G.d1
   have hK := o0d (show 0 < m by omega) e (w := wid g) (D := g.digs.toNat) wp.1 (by omega)
   have hl1 : (dig B32 1).length ≤ 1 := by rw [a0g a0b]; unfold B32; omega
   have HF := fun W q d (h1 : Rd W .u32 p (dig B32 m)) (h2 : Rd W .u32 q (dig B32 1)) => lHd (s0u s p q c d m 1 e g 3 _ W h1 h2 hl (by omega) (by omega) (by omega) he G (by omega) (by omega) hK)
   have hkk : h0y ⟨s, m, e⟩ g = ((fitK s m 1 e g 3 ((e + blen m - 1) / wid g - g.digs.toNat + 1)).exact && !(fitK s m 1 e g 3 ((e + blen m - 1) / wid g - g.digs.toNat + 1)).over && (!(fitK s m 1 e g 3 ((e + blen m - 1) / wid g - g.digs.toNat + 1)).under || g.grad)) := by
    unfold h0y
    rw [if_neg h0]
    rfl
   rw [hkk]
   generalize fitK s m 1 e g 3 ((e + blen m - 1) / wid g - g.digs.toNat + 1) = pf at *
   clear hkk h0 hK hd1 wp
   generalize hds : f0a ⟨s, m, e⟩ = sg0 at *
   have HSG := lHd hds
   clear hds
   go_enter Tryz.func167, Tryz.ntmps167
   go_wp2_with fail
   refine p0w (fun W1 hb1 hz1 A B => ?_)
   replace hp := hp.past hb1
   have hs1 := hb1
   ((with_reducible refine (d0o s p _ c e m _ rfl).mono ?_))
   rintro e2 w2 ⟨rfl, hb2⟩
   rw [HSG.out]
   replace A := A.past hb2
   replace B := B.past hb2
   replace hp := hp.past hb2
   have hs2 := hs1.trans (hb2.mono hs1.size)
   go_wp2_with fail
   have hAl := A.lt
   have hBl := B.lt
   have hzd : w2.drew.heap.size = w2.heap.size := rfl
   have HZD := lHd hzd
   clear hzd
   go_cut [5] (fun s5 wx => ∃ (kx : Nat) (px : OA) (cx : Nat), s5 = .pointer (some ⟨kx, 0, none⟩) ∧ Bx wx kx #[.bool pf.neg, .slice px (dig B32 pf.d).length cx, .int .i64 pf.pow, .bool pf.exact, .bool pf.over, .bool pf.under] ∧ w2.heap.size ≤ kx ∧ Below w2.heap.size w2 wx)
   case first =>
    go_region_held3 (fun w' => (w'.cell? ⟨w.heap.size, 0, none⟩ = some (.bool s) ∧ w'.cell? ⟨w.heap.size, 1, none⟩ = some (.slice p (dig B32 m).length c) ∧ w'.cell? ⟨w.heap.size, 2, none⟩ = some (.int .i64 e)) ∧
        (w'.cell? ⟨w.heap.size + 1, 0, none⟩ = some (.int .i64 g.rad) ∧ w'.cell? ⟨w.heap.size + 1, 1, none⟩ = some (.int .i64 g.digs) ∧ w'.cell? ⟨w.heap.size + 1, 2, none⟩ = some (.int .i64 g.lo) ∧ w'.cell? ⟨w.heap.size + 1, 3, none⟩ = some (.int .i64 g.hi) ∧ w'.cell? ⟨w.heap.size + 1, 4, none⟩ = some (.bool g.grad)))
     (first
     | with_reducible exact ⟨A.e3, B.e5⟩
     | with_reducible exact ⟨(A.drew).e3, (B.drew).e5⟩
     | with_reducible exact ⟨((A.laid _).drew).e3, ((B.laid _).drew).e5⟩
     | with_reducible exact ⟨(((A.laid _).drew).past hbx).e3, (((B.laid _).drew).past hbx).e5⟩
     | with_reducible exact ⟨((A.drew).past hbx).e3, ((B.drew).past hbx).e5⟩
     | with_reducible exact ⟨(((A.drew).past hbx).laid _).e3, (((B.drew).past hbx).laid _).e5⟩
     | with_reducible exact ⟨((((A.laid _).drew).past hbx).past hby).e3, ((((B.laid _).drew).past hbx).past hby).e5⟩
     | with_reducible exact ⟨((((A.drew).past hbx).laid _).past hby).e3, ((((B.drew).past hbx).laid _).past hby).e5⟩
     | with_reducible exact ⟨(((A.drew).past hbx).past hby).e3, (((B.drew).past hbx).past hby).e5⟩
     | with_reducible exact ⟨((((A.drew).past hbx).past hby).laid _).e3, ((((B.drew).past hbx).past hby).laid _).e5⟩
     | with_reducible exact ⟨(((((A.laid _).drew).past hbx).past hby).only (r0j _ _ _ _ _ _ _ _) (by omega)).e3, (((((B.laid _).drew).past hbx).past hby).only (r0j _ _ _ _ _ _ _ _) (by omega)).e5⟩
     | with_reducible exact ⟨(((((A.drew).past hbx).laid _).past hby).only (r0j _ _ _ _ _ _ _ _) (by omega)).e3, (((((B.drew).past hbx).laid _).past hby).only (r0j _ _ _ _ _ _ _ _) (by omega)).e5⟩)
     (first
       | (go_at_call 229; ((with_reducible refine (b1t s p _ c e _).mono ?_)); rintro ex wx ⟨qx, dx, rfl, hox, hbx⟩; (have hzx : w2.heap.size ≤ wx.heap.size := by have := hbx.size; simp at this; omega))
       | (go_at_call 37; (first
           | with_reducible refine (HF _ qx dx (hp.drew.past hbx) hox.rd).out.mono ?_
           | with_reducible refine (HF _ qx dx ((hp.laid _).drew.past hbx) hox.rd).out.mono ?_
           | with_reducible refine (HF _ qx dx ((hp.drew.past hbx).laid _) (hox.rd.laid _)).out.mono ?_); rintro ey wy ⟨py, cy, rfl, hoy, hby⟩; (first
           | (have XX := (j0e w2 #[.bool false, .slice none 0 0, .int .i64 0, .bool false, .bool false, .bool false] 84).drew.past hbx |>.past hby; obtain ⟨X_0, X_1, X_2, X_3, X_4, X_5⟩ := XX.e6; have X_f0 := XX.f 0; have X_f1 := XX.f 1; have X_f2 := XX.f 2; have X_f3 := XX.f 3; have X_f4 := XX.f 4; have X_f5 := XX.f 5)
           | (have XX := (j0e wx #[.bool false, .slice none 0 0, .int .i64 0, .bool false, .bool false, .bool false] 84).past hby; obtain ⟨X_0, X_1, X_2, X_3, X_4, X_5⟩ := XX.e6; have X_f0 := XX.f 0; have X_f1 := XX.f 1; have X_f2 := XX.f 2; have X_f3 := XX.f 3; have X_f4 := XX.f 4; have X_f5 := XX.f 5)
           | skip)))
    all_goals (go_wp2_with fail)
    all_goals go_meet
    · have hzy := hby.size
      exact ⟨wy.heap.size, py, cy, rfl, j0e wy _ _, by omega, (((Below.refl w2.heap.size w2).drew.trans hbx).trans (hby.mono hzx)).trans ((c0y wy _).mono (by omega))⟩
    · have hzy := hby.size
      rw [World.size_alloc] at hzy
      have hO := r0j wy wx.heap.size (.bool pf.neg) (.slice py (dig B32 pf.d).length cy) (.int .i64 pf.pow) (.bool pf.exact) (.bool pf.over) (.bool pf.under)
      exact ⟨wx.heap.size, py, cy, rfl, XX.put6 _ _ _ _ _ _, hzx, ((((Below.refl w2.heap.size w2).drew.trans hbx).trans ((c0y wx _).mono hzx)).trans (hby.mono (by rw [World.size_alloc]; omega))).trans (hO.below hzx)⟩
    · have hzy := hby.size
      have hO := r0j wy w2.heap.size (.bool pf.neg) (.slice py (dig B32 pf.d).length cy) (.int .i64 pf.pow) (.bool pf.exact) (.bool pf.over) (.bool pf.under)
      exact ⟨w2.heap.size, py, cy, rfl, XX.put6 _ _ _ _ _ _, Nat.le_refl _, ((((c0y w2 _).drew).trans (hbx.mono (by simp))).trans (hby.mono hzx)).trans (hO.below (Nat.le_refl _))⟩
   case rest =>
    obtain ⟨kx, px, cx, rfl, X, hkx, hbc⟩ := hcut
    have hs4 := hs2.trans (hbc.mono hs2.size)
    replace B := B.past hbc
    clear hbc
    obtain ⟨png, pd, ppw, pex, pov, pun⟩ := pf
    obtain ⟨X_0, X_1, X_2, X_3, X_4, X_5⟩ := X.e6
    obtain ⟨B_0, B_1, B_2, B_3, B_4⟩ := B.e5
    simp only at X_3 X_4 X_5 ⊢
    clear HF
    generalize hgr : g.grad = gr at *
    have HGR := lHd hgr
    clear hgr
    cases pex <;> cases pov <;> cases pun <;> cases gr <;> (go_wp2; go_ret; exact ⟨by first | rfl | (rw [HGR.out]; rfl), hs4⟩)
end Go.Proofs.YtgbbhlginbmghaaGreatDoor
namespace Go.Slip
theorem k1t {s : Bool} {m : Nat} {e : Int} {g : Gd} (G : f0c g) (hin : a0s ⟨s, m, e⟩ g = true) (h0 : m ≠ 0) :
 (fitK s m 1 e g 3 ((e + blen m - 1) / wid g - g.digs.toNat + 1)).d = qP m 1 (e - wid g * b0w ⟨s, m, e⟩ g) ∧
 ((fitK s m 1 e g 3 ((e + blen m - 1) / wid g - g.digs.toNat + 1)).d ≠ 0 → (fitK s m 1 e g 3 ((e + blen m - 1) / wid g - g.digs.toNat + 1)).pow = b0w ⟨s, m, e⟩ g) ∧
 (fitK s m 1 e g 3 ((e + blen m - 1) / wid g - g.digs.toNat + 1)).d ≠ 0 := by
 have hb := e1m G hin h0
 simp only at hb
 have hp : powK g ((e + blen m - 1) / wid g - g.digs.toNat + 1) = b0w ⟨s, m, e⟩ g := by
  have eK : b0w ⟨s, m, e⟩ g = max g.lo ((e + blen m - 1) / wid g - g.digs.toNat + 1) := rfl
  rw [eK]
  unfold powK
  by_cases h1 : (e + blen m - 1) / wid g - g.digs.toNat + 1 < g.lo
  · by_cases h2 : g.grad = true
    · rw [if_pos ⟨h1, h2⟩]; omega
    · exfalso
      unfold a0s at hin
      rw [if_neg h0] at hin
      have eU : upK ⟨s, m, e⟩ (wid g) g.digs.toNat = (e + blen m - 1) / wid g - g.digs.toNat + 1 := rfl
      rw [eU] at hin
      rw [if_pos h1, if_neg h2] at hin
      simp at hin
  · rw [if_neg (fun h => h1 h.1)]; omega
 unfold fitK
 simp only
 rw [hp, e1i, k0p]
 have hq : qP m 1 (e - wid g * b0w ⟨s, m, e⟩ g) ≠ 0 := by
  unfold qP numP denP
  rw [show (-(e - wid g * b0w ⟨s, m, e⟩ g)).toNat = 0 by omega, Nat.pow_zero, Nat.mul_one, Nat.div_one]
  have := Nat.mul_pos (show 0 < m by omega) (Nat.pow_pos (n := (e - wid g * b0w ⟨s, m, e⟩ g).toNat) (show 0 < 2 by omega))
  omega
 exact ⟨rfl, fun h => by rw [if_neg h], hq⟩
end Go.Slip
namespace Go.Proofs.YtgbbhlginbmghaaGreatDoor
open Go.RowKit Go.Slip
theorem i0o (f : Fm) (w : World) : Calls Tryz.prog 230 #[(fV f)] w fun en w' => en = .returned (.int .i64 ((wid f.g : Nat) : Int)) ∧ Below w.heap.size w w' := by
 by_cases h : f.g.rad = 16
 · have hw : wid f.g = 4 := by unfold wid; rw [if_pos h]
   rw [hw]
   have I := Inv.start w [] True.intro
   refine a0c [.v ((fV f))] I Tryz.func230 ?_
   refine zb I 6 (f.g.rad == 16) (true) (beq_iff_eq.2 h) fun Al W I => zrb I
 · have hw : wid f.g = 1 := by unfold wid; rw [if_neg h]
   rw [hw]
   have I := Inv.start w [] True.intro
   refine a0c [.v ((fV f))] I Tryz.func230 ?_
   refine zb I 6 (f.g.rad == 16) (false) (bFn h) fun Al W I => zrb I
theorem p1t (f : Fm) (g : Bool) (m : Nat) (pw k : Int) (p : OA) (c : Nat) (w : World) (hp : Rd w .u32 p (dig B32 m)) (hc : (dig B32 m).length ≤ c) (hl : (dig B32 m).length ≤ 1000000) (hpw : -100000 ≤ pw ∧ pw ≤ 100000) (hT : TabW w) :
 Calls Tryz.prog 168 #[(fV f), .agg #[.int .i64 k, .bool g, .slice p (dig B32 m).length c, .int .i64 pw]] w (f0s w w.heap.size (bare ⟨g, m, wid f.g * pw⟩)) := by
 have wp := b0g f.g
 have hmu := u0y (wd := wid f.g) (k := pw) (B := 100000) wp.2 hpw
 rw [← u0g]
 generalize hmw : (wid f.g : Int) * pw = mw at *
 have HMW := lHd hmw
 have HW := fun W h1 h2 => lHd (u0u p _ c mw m W h1 rfl hc (by omega) (by omega) h2)
 clear hmw
 generalize hd : bare ⟨false, m, mw⟩ = d at *
 clear hd
 cases g with
 | false =>
  rw [if_neg (by simp)]
  have I := Inv.start w [rdF .u32 p (dig B32 m), tabF] ⟨hp, hT, True.intro⟩
  refine a0c [.v ((fV f)), .v (.agg #[.int .i64 k, .bool false, .slice p (dig B32 m).length c, .int .i64 pw])] I Tryz.func168 ?_
  refine zcut I none (fun fr bx gs => ∃ (U1 : Nat → Value) (p13 : OA) (c13 : Nat), fr = (.v ((fV f)) :: .v (.agg #[vI k, .bool false, vS (dig B32 m) p c, vI pw]) :: .p 0 0 :: .p 1 0 :: .p 2 0 :: .p 3 0 :: sw U1 6 9 (vu :: sw U1 16 3 []) : List SV) ∧ bx = [⟨98, [.v (vI (f.size : Int)), .v (vI (f.E : Int)), .v (vI (f.F : Int)), .v (vI f.g.rad), .v (vI f.g.digs), .v (vI f.g.lo), .v (vI f.g.hi), .v (.bool f.g.grad), .v (.bool f.hid), .v (.bool f.inf), .v (.bool f.res), .v (.func (.func (ordF f)) #[] #[])], false⟩, ⟨61, [.v (vI k), .v (.bool false), .v (vS (dig B32 m) p c), .v (vI pw)], false⟩, ⟨129, [.v (.bool false), .v (.slice none 0 0), .v (vI 0)], false⟩, ⟨129, [.v (.bool d.neg), .v (vS (dig B32 d.m) p13 c13), .v (vI d.e)], false⟩] ∧ gs = [ownF w.heap.size .u32 139 p13 c13 (dig B32 d.m), rdF .u32 p (dig B32 m), tabF]) ?_ ?_
  · intro J hJ Al W I
    refine zd [] I fun Al W I => zk [0, 1, 2, 4, 5] I fun I => zo2 3 8 I (fun I => ?_) (fun I => ?_)
    · refine zq I (fun Al W I => i0o f W) fun Al W I => zki 6 I .i64 (((wid f.g : Nat) : Int) * pw) (mw) ((by rw [HMW.out]; exact iwo)) fun I => zo2 7 8 I (fun I => ?_) (fun I => ?_)
      · refine zqo I (fun Al W I => (HW W I.fa.1 I.fa.2.1).out) fun Al W p13 c13 I => zo 8 I fun I => zn I fun Al W I => zo 9 I fun I => zn I fun Al W I => a0i I J fun Al W U I => hJ _ _ _ _ _ ⟨U, p13, c13, rfl, rfl, rfl⟩ (I.pick [0, 1, 2])
      refine zn I fun Al W I => zo 7 I fun I => zqo I (fun Al W I => (HW W I.fa.1 I.fa.2.1).out) fun Al W p13 c13 I => zo 9 I fun I => zn I fun Al W I => a0i I J fun Al W U I => hJ _ _ _ _ _ ⟨U, p13, c13, rfl, rfl, rfl⟩ (I.pick [0, 1, 2])
    refine zn I fun Al W I => zo 3 I fun I => zq I (fun Al W I => i0o f W) fun Al W I => zki 6 I .i64 (((wid f.g : Nat) : Int) * pw) (mw) ((by rw [HMW.out]; exact iwo)) fun I => zo 7 I fun I => zqo I (fun Al W I => (HW W I.fa.1 I.fa.2.1).out) fun Al W p13 c13 I => zo 9 I fun I => zn I fun Al W I => a0i I J fun Al W U I => hJ _ _ _ _ _ ⟨U, p13, c13, rfl, rfl, rfl⟩ (I.pick [0, 1, 2])
  rintro _ _ _ ⟨U1, p13, c13, rfl, rfl, rfl⟩ Al W I
  exact zret I fun Al W I => ⟨p13, c13, rfl, I.fa.1.mono (by omega), I.below⟩
 | true =>
  rw [if_pos rfl]
  have I := Inv.start w [rdF .u32 p (dig B32 m), tabF] ⟨hp, hT, True.intro⟩
  refine a0c [.v ((fV f)), .v (.agg #[.int .i64 k, .bool true, .slice p (dig B32 m).length c, .int .i64 pw])] I Tryz.func168 ?_
  refine zcut I none (fun fr bx gs => ∃ (U1 : Nat → Value) (p13 : OA) (c13 : Nat), fr = (.v ((fV f)) :: .v (.agg #[vI k, .bool true, vS (dig B32 m) p c, vI pw]) :: .p 0 0 :: .p 1 0 :: .p 2 0 :: .p 3 0 :: sw U1 6 9 (vu :: sw U1 16 3 []) : List SV) ∧ bx = [⟨98, [.v (vI (f.size : Int)), .v (vI (f.E : Int)), .v (vI (f.F : Int)), .v (vI f.g.rad), .v (vI f.g.digs), .v (vI f.g.lo), .v (vI f.g.hi), .v (.bool f.g.grad), .v (.bool f.hid), .v (.bool f.inf), .v (.bool f.res), .v (.func (.func (ordF f)) #[] #[])], false⟩, ⟨61, [.v (vI k), .v (.bool true), .v (vS (dig B32 m) p c), .v (vI pw)], false⟩, ⟨129, [.v (.bool false), .v (.slice none 0 0), .v (vI 0)], false⟩, ⟨129, [.v (.bool d.neg), .v (vS (dig B32 d.m) p13 c13), .v (vI d.e)], false⟩] ∧ gs = [ownF w.heap.size .u32 139 p13 c13 (dig B32 d.m), rdF .u32 p (dig B32 m), tabF]) ?_ ?_
  · intro J hJ Al W I
    refine zd [] I fun Al W I => zk [0, 1, 2, 4, 5] I fun I => zo2 3 8 I (fun I => ?_) (fun I => ?_)
    · refine zq I (fun Al W I => i0o f W) fun Al W I => zki 6 I .i64 (((wid f.g : Nat) : Int) * pw) (mw) ((by rw [HMW.out]; exact iwo)) fun I => zo2 7 8 I (fun I => ?_) (fun I => ?_)
      · refine zqo I (fun Al W I => (HW W I.fa.1 I.fa.2.1).out) fun Al W p13 c13 I => zo 8 I fun I => zn I fun Al W I => zo 9 I fun I => zn I fun Al W I => a0i I J fun Al W U I => hJ _ _ _ _ _ ⟨U, p13, c13, rfl, rfl, rfl⟩ (I.pick [0, 1, 2])
      refine zn I fun Al W I => zo 7 I fun I => zqo I (fun Al W I => (HW W I.fa.1 I.fa.2.1).out) fun Al W p13 c13 I => zo 9 I fun I => zn I fun Al W I => a0i I J fun Al W U I => hJ _ _ _ _ _ ⟨U, p13, c13, rfl, rfl, rfl⟩ (I.pick [0, 1, 2])
    refine zn I fun Al W I => zo 3 I fun I => zq I (fun Al W I => i0o f W) fun Al W I => zki 6 I .i64 (((wid f.g : Nat) : Int) * pw) (mw) ((by rw [HMW.out]; exact iwo)) fun I => zo 7 I fun I => zqo I (fun Al W I => (HW W I.fa.1 I.fa.2.1).out) fun Al W p13 c13 I => zo 9 I fun I => zn I fun Al W I => a0i I J fun Al W U I => hJ _ _ _ _ _ ⟨U, p13, c13, rfl, rfl, rfl⟩ (I.pick [0, 1, 2])
  rintro _ _ _ ⟨U1, p13, c13, rfl, rfl, rfl⟩ Al W I
  refine zq I (fun Al W I => f1m d.neg p13 _ c13 d.e d.m W rfl) fun Al W I => zret I fun Al W I => ⟨p13, c13, rfl, I.fa.1.mono (by omega), I.below⟩
theorem z0g (f : Fm) (g : Bool) (E : Int) (e x : Nat) (hE : E = e) (p : OA) (c : Nat) (w : World) (G : c0g f) (hp : Rd w .u32 p (dig B32 x)) (he : e < 2 ^ f.E) (hx : x < 2 ^ f.F) :
 Calls Tryz.prog 171 #[(fV f), .agg #[.bool g, .int .i64 E, .slice p (dig B32 x).length c]] w fun en w' => en = .returned (.string (a0d (f.str g e x))) ∧ Below w.heap.size w w' := by
 subst hE
 exact z0f f g e x p c w G hp he hx
theorem p1u {F : Nat} (h : F ≤ 64) : (dig B32 (2 ^ F)).length ≤ 3 := a0u (n := F + 1) (Nat.pow_lt_pow_right (by omega) (by omega)) (by omega)
theorem b1u (f : Fm) (d : Dv) (p : OA) (c : Nat) (w : World) (G : c0g f) (hp : Rd w .u32 p (dig B32 d.m)) (hl : (dig B32 d.m).length ≤ 1200) (he : -60000 ≤ d.e ∧ d.e ≤ 60000) (hin : a0s d f.g = true) (h0 : d.m ≠ 0) :
 Calls Tryz.prog 169 #[(fV f), .agg #[.bool d.neg, .slice p (dig B32 d.m).length c, .int .i64 d.e]] w fun en w' => en = .returned (.string (a0d (f.strP (f.numP d)))) ∧ Below w.heap.size w w' := by
 have hg := c0e G.g
 have N := e1z G hin h0
 have hlt := f1a G N
 obtain ⟨s, m, e⟩ := d
 simp only at h0 hl he hp
 have hd1 := hg.d1
 have hd2 := hg.d2
 have hl1 : (dig B32 1).length ≤ 1 := by rw [a0g a0b]; unfold B32; omega
 obtain ⟨f1, f2, f3⟩ := k1t hg hin h0
 have f4 := f2 f3
 have hq : qP m 1 (e - wid f.g * b0w ⟨s, m, e⟩ f.g) = f.fr ⟨s, m, e⟩ := by
  have := N.e0
  simp only at this
  unfold qP numP denP Fm.fr
  rw [show (-(e - wid f.g * b0w ⟨s, m, e⟩ f.g)).toNat = 0 by omega, Nat.pow_zero, Nat.mul_one, Nat.div_one]
 rw [hq] at f1
 have hK := o0d (show 0 < m by omega) e (w := wid f.g) (D := f.g.digs.toNat) (b0g f.g).1 (by omega)
 have HF := fun W q d (h1 : Rd W .u32 p (dig B32 m)) (h2 : Rd W .u32 q (dig B32 1)) => lHd (s0u s p q c d m 1 e f.g 3 _ W h1 h2 (by omega) (by omega) (by omega) (by omega) (by omega) hg (by omega) (by omega) hK)
 have hlow := N.low
 have hbl := N.bl
 have hk1 := N.k1
 have hk2 := N.k2
 have hfl : (dig B32 (f.fr ⟨s, m, e⟩)).length ≤ 16 := a0u N.lt (k := 16) (by have := Nat.mul_le_mul (b0g f.g).2 (show f.g.digs.toNat ≤ 120 by omega); omega)
 have hnp : f.numP ⟨s, m, e⟩ = if f.fam = 2 then ⟨s, (b0w ⟨s, m, e⟩ f.g - f.g.lo).toNat, f.fr ⟨s, m, e⟩⟩
  else if (blen (f.fr ⟨s, m, e⟩) : Int) = f.g.digs then ⟨s, (b0w ⟨s, m, e⟩ f.g - f.g.lo).toNat + 1, if f.ext then f.fr ⟨s, m, e⟩ else f.fr ⟨s, m, e⟩ - 2 ^ f.F⟩
  else ⟨s, (b0w ⟨s, m, e⟩ f.g - f.g.lo).toNat, f.fr ⟨s, m, e⟩⟩ := rfl
 rw [hnp] at hlt ⊢
 clear hnp N
 generalize f.fr ⟨s, m, e⟩ = X at *
 generalize b0w ⟨s, m, e⟩ f.g = K at *
 generalize fitK s m 1 e f.g 3 ((e + blen m - 1) / wid f.g - f.g.digs.toNat + 1) = pf at *
 obtain ⟨pn, pd, pp, pex, pov, pun⟩ := pf
 simp only at f1 f4
 subst f1 f4
 clear hK f2 f3 hq
 have z5 := G.lo
 have z6 := G.hi
 have hr := G.rad
 have hw := G.w
 have HJ := fun (W : World) (g : Bool) (e x : Nat) (p : OA) (c : Nat) h h1 h2 => lHd (z0f f g e x p c W G h h1 h2)
 unfold Fm.strP
 have ht := p1u G.f2
 have hh : f.fam ≠ 2 → (f.hid = true ↔ f.ext = false) := fun h => by unfold Fm.hid; cases f.ext <;> simp [h]
 have h33 : (f.g.rad == 2) = true ↔ f.fam ≠ 2 := by rw [beq_iff_eq]; split at hr <;> omega
 have hge : f.fam ≠ 2 → (blen pd : Int) = f.g.digs → f.ext = false → 2 ^ f.F ≤ pd := fun hf hb hx => by
  have hFF := G.d1 hf hx
  have h1 := g0w pd ((e0k pd).1 (by omega))
  rw [show blen pd - 1 = f.F by omega] at h1
  exact h1
 have hbd : f.fam ≠ 2 → (blen pd : Int) ≤ f.g.digs := fun hf => by rw [if_neg hf] at hw; rw [hw] at hbl; omega
 obtain ⟨Q, hQ⟩ : ∃ Q, (if f.fam = 2 then (⟨s, (pp - f.g.lo).toNat, pd⟩ : Pt)
   else if (blen pd : Int) = f.g.digs then ⟨s, (pp - f.g.lo).toNat + 1, if f.ext then pd else pd - 2 ^ f.F⟩
   else ⟨s, (pp - f.g.lo).toNat, pd⟩) = Q := ⟨_, rfl⟩
 rw [hQ] at hlt ⊢
 obtain ⟨q33, hq33⟩ : ∃ q, (f.g.rad == 2) = q := ⟨_, rfl⟩
 let aA : Box := ⟨98, [.v (.int .i64 (f.size : Int)), .v (.int .i64 (f.E : Int)), .v (.int .i64 (f.F : Int)), .v (.int .i64 f.g.rad), .v (.int .i64 f.g.digs), .v (.int .i64 f.g.lo), .v (.int .i64 f.g.hi), .v (.bool f.g.grad), .v (.bool f.hid), .v (.bool f.inf), .v (.bool f.res), .v (.func (.func (ordF f)) #[] #[])], false⟩
 let aB : Box := ⟨129, [.v (.bool s), .v (.slice p (dig B32 m).length c), .v (.int .i64 e)], false⟩
 let aC : SV := .v ((fV f))
 let aD : SV := .v (.agg #[.bool s, .slice p (dig B32 m).length c, .int .i64 e])
 have I := Inv.start w [rdF .u32 p (dig B32 m)] ⟨hp, True.intro⟩
 refine a0c [.v ((fV f)), .v (.agg #[.bool s, .slice p (dig B32 m).length c, .int .i64 e])] I Tryz.func169 ?_
 refine zcut I none (fun fr bx gs => ∃ (U1 : Nat → Value) (p21 : OA) (c21 : Nat), fr = (aC :: aD :: .p 0 0 :: .p 1 0 :: .v (Go.Value.string (ByteArray.mk #[])) :: .p 2 0 :: su 2 (sw U1 8 25 (vu :: sw U1 34 7 (vu :: .v (U1 42) :: vu :: sw U1 44 13 []))) : List SV) ∧ bx = [aA, aB, ⟨84, [.v (.bool pn), .v (vS (dig B32 pd) p21 c21), .v (vI pp), .v (.bool pex), .v (.bool pov), .v (.bool pun)], false⟩] ∧ gs = [ownF w.heap.size .u32 139 p21 c21 (dig B32 pd), rdF .u32 p (dig B32 m)]) ?_ ?_
 · intro J hJ Al W I
   refine zd [] I fun Al W I => zk [0, 1, 2, 3, 4, 5, 7, 8, 9, 11, 12] I fun I => zo2 6 14 I (fun I => ?_) (fun I => ?_)
   · refine zqo I (fun Al W I => have hzW := I.bel.size; sof 1 1 rfl (by omega) W) fun Al W p14 c14 I => zk [10] I fun I => zo2 13 14 I (fun I => ?_) (fun I => ?_)
     · refine zg I (fun Al W I => (HF W p14 c14 I.fa.2.1 I.fa.1.rd).out) fun Al V Iv _ hB _ kz => ?_
       rintro _ W ⟨p21, c21, rfl, o21, hb⟩
       refine ⟨_, rfl, kz _ _ hb fun I => ?_⟩
       have I := I.own o21
       refine zo 14 I fun I => zn I fun Al W I => zo 15 I fun I => zn I fun Al W I => a0i I J fun Al W U I => hJ _ _ _ _ _ ⟨U, p21, c21, rfl, rfl, rfl⟩ (I.pick [0, 2])
     refine zn I fun Al W I => zo 13 I fun I => zg I (fun Al W I => (HF W p14 c14 I.fa.2.1 I.fa.1.rd).out) fun Al V Iv _ hB _ kz => ?_
     rintro _ W ⟨p21, c21, rfl, o21, hb⟩
     refine ⟨_, rfl, kz _ _ hb fun I => ?_⟩
     have I := I.own o21
     refine zo 15 I fun I => zn I fun Al W I => a0i I J fun Al W U I => hJ _ _ _ _ _ ⟨U, p21, c21, rfl, rfl, rfl⟩ (I.pick [0, 2])
   refine zn I fun Al W I => zo 6 I fun I => zqo I (fun Al W I => have hzW := I.bel.size; sof 1 1 rfl (by omega) W) fun Al W p14 c14 I => zk [10] I fun I => zo 13 I fun I => zg I (fun Al W I => (HF W p14 c14 I.fa.2.1 I.fa.1.rd).out) fun Al V Iv _ hB _ kz => ?_
   rintro _ W ⟨p21, c21, rfl, o21, hb⟩
   refine ⟨_, rfl, kz _ _ hb fun I => ?_⟩
   have I := I.own o21
   refine zo 15 I fun I => zn I fun Al W I => a0i I J fun Al W U I => hJ _ _ _ _ _ ⟨U, p21, c21, rfl, rfl, rfl⟩ (I.pick [0, 2])
 rintro _ _ _ ⟨U1, p21, c21, rfl, rfl, rfl⟩ Al W I
 refine zi I 27 .i64 (pp - f.g.lo) ((((pp - f.g.lo).toNat : Nat) : Int)) ((by rw [show (((pp - f.g.lo).toNat : Nat) : Int) = pp - f.g.lo by omega]; exact iwo)) fun Al W I => zb I 33 (f.g.rad == 2) (q33) (hq33) fun Al W I => zcut I (some 2000033) (fun fr bx gs => ∃ (U2 : Nat → Value) (e1 : Nat) (x1 : Nat) (p1 : OA) (c1 : Nat), fr = (aC :: aD :: .p 0 0 :: .p 1 0 :: .v (Go.Value.string (ByteArray.mk #[])) :: .p 2 0 :: .v (vI (e1 : Int)) :: .v (vS (dig B32 x1) p1 c1) :: sw U2 8 25 (.v (.bool q33) :: sw U2 34 23 []) : List SV) ∧ bx = [aA, aB, ⟨84, [.v (.bool pn), .v (vS (dig B32 pd) p21 c21), .v (vI pp), .v (.bool pex), .v (.bool pov), .v (.bool pun)], false⟩] ∧ gs = [ownF w.heap.size .u32 139 p1 c1 (dig B32 x1), rdF .u32 p (dig B32 m)] ∧ (Q = ⟨s, e1, x1⟩)) ?_ ?_
 · intro J hJ Al W I
   rcases bTF q33 with rfl | rfl
   · refine zi I 35 .i64 ((((pp - f.g.lo).toNat : Nat) : Int) + 1) ((((pp - f.g.lo).toNat + 1 : Nat) : Int)) ((by rw [show ((((pp - f.g.lo).toNat : Nat) : Int) + 1) = (((pp - f.g.lo).toNat + 1 : Nat) : Int) by omega]; exact iwo)) fun Al W I => ?_
     by_cases s41 : ((blen pd : Nat) : Int) < f.g.digs
     · have hf := h33.1 hq33
       refine zd [] I fun Al W I => zk [0, 2, 3, 4] I fun I => zo 1 I fun I => zq I (fun Al W I => have hzW := I.bel.size; stay (i0d p21 _ c21 pd W I.fa.1.rd rfl (by omega))) fun Al W I => zkb 5 I (decide (((blen pd : Nat) : Int) < f.g.digs)) (true) (dTr s41) fun I => a0i I J fun Al W U I => hJ _ _ _ _ _ ⟨U, 0, pd, p21, c21, rfl, rfl, rfl, (by have hf := h33.1 hq33; rw [← hQ, if_neg hf, if_neg (by omega), show (pp - f.g.lo).toNat = 0 by have := (hlow hf (by omega)).1; omega])⟩ (I.pick [0, 1])
     have hf := h33.1 hq33
     refine zd [] I fun Al W I => zk [0, 2, 3, 4] I fun I => zo 1 I fun I => zq I (fun Al W I => have hzW := I.bel.size; stay (i0d p21 _ c21 pd W I.fa.1.rd rfl (by omega))) fun Al W I => zkb 5 I (decide (((blen pd : Nat) : Int) < f.g.digs)) (false) (dFa s41) fun I => ?_
     rcases bTF (f.hid) with f43 | f43
     · refine zb I 43 (f.hid) (true) (f43) fun Al W I => zqo I (fun Al W I => have hzW := I.bel.size; i0f f.F (2 ^ f.F) _ W (by have := G.f2; omega) rfl rfl) fun Al W p47 c47 I => zqo I (fun Al W I => have hzW := I.bel.size; ssub p21 p47 _ _ c21 c47 pd (2 ^ f.F) (pd - 2 ^ f.F) W I.fa.2.1.rd I.fa.1.rd rfl rfl (by omega) (hge (h33.1 hq33) (by have := hbd (h33.1 hq33); omega) ((hh (h33.1 hq33)).1 f43)) rfl) fun Al W p48 c48 I => a0i I J fun Al W U I => hJ _ _ _ _ _ ⟨U, ((pp - f.g.lo).toNat + 1), (pd - 2 ^ f.F), p48, c48, rfl, rfl, rfl, (by have hf := h33.1 hq33; have := hbd hf; rw [← hQ, if_neg hf, if_pos (by omega), if_neg (by rw [(hh hf).1 f43]; exact Bool.false_ne_true)])⟩ (I.pick [0, 3])
     refine zb I 43 (f.hid) (false) (f43) fun Al W I => a0i I J fun Al W U I => hJ _ _ _ _ _ ⟨U, ((pp - f.g.lo).toNat + 1), pd, p21, c21, rfl, rfl, rfl, (by have hf := h33.1 hq33; have := hbd hf; rw [← hQ, if_neg hf, if_pos (by omega), if_pos (by cases hx : f.ext; (have := (hh hf).2 hx; rw [f43] at this; cases this); rfl)])⟩ (I.pick [0, 1])
   exact a0i I J fun Al W U I => hJ _ _ _ _ _ ⟨U, (pp - f.g.lo).toNat, pd, p21, c21, rfl, rfl, rfl, (by rw [← hQ, if_pos (by by_cases h : f.fam = 2; exact h; (have := h33.2 h; rw [hq33] at this; cases this))])⟩ (I.pick [0, 1])
 rintro _ _ _ ⟨U2, e1, x1, p1, c1, rfl, rfl, rfl, hQ1⟩ Al W I
 refine zq I (fun Al W I => (HJ W s e1 x1 p1 c1 I.fa.1.rd (by rw [hQ1] at hlt; exact hlt.1) (by rw [hQ1] at hlt; exact hlt.2)).out) fun Al W I => zret I (v := fun Al => .string (a0d (f.str s e1 x1))) fun Al W I => ⟨by rw [hQ1], I.below⟩
def numD (f : Fm) (a : Din) : Dv := bare ⟨a.g, val B32 a.xs, wid f.g * a.e⟩
def c0h (f : Fm) (cls : Int) (a : Din) : Int :=
 if cls < 1 ∨ 5 < cls then 6
 else if b0b a.xs ≠ 0 then b0b a.xs
 else if ((cls = 3 ∨ cls = 4) ∧ f.inf = false) ∨ (cls = 5 ∧ f.res = false) then 5
 else if cls = 2 then
  if a.e < -20000 ∨ 20000 < a.e then 3
  else if a.xs.length = 0 ∨ a0s (numD f a) f.g = false then 4 else 0
 else if 0 < a.xs.length ∨ a.e ≠ 0 ∨ (a.g = true ∧ (4 ≤ cls ∨ f.res = true)) then 4 else 0
def q0o (f : Fm) (cls : Int) (a : Din) : ByteArray := a0d (f.strP (f.encP cls.toNat a.g (numD f a)))
def v0e (w : World) (er : Int) (s : ByteArray) (en : Ending) (w' : World) : Prop :=
 en = .returned (.tuple #[.string (if er = 0 then s else a0d []), .int .i64 er]) ∧ Below w.heap.size w w'
theorem c0m {w w' : World} {er r : Int} {s : ByteArray} {en : Ending} (h : er = r) (hr : r ≠ 0) (he : en = .returned (.tuple #[.string ⟨#[]⟩, .int .i64 r])) (hb : Below w.heap.size w w') : v0e w er s en w' := by
 subst h
 exact ⟨by rw [he, if_neg hr]; rfl, hb⟩
theorem f0v {w w' : World} {er : Int} {s t : ByteArray} {en : Ending} (h : er = 0) (hs : s = t) (he : en = .returned (.tuple #[.string t, .int .i64 0])) (hb : Below w.heap.size w w') : v0e w er s en w' := by
 subst h hs
 exact ⟨by rw [he, if_pos rfl], hb⟩
theorem p1v {f : Fm} {w : World} {a : Din} (ha : InD w a) (h : b0b a.xs = 0) (he : -20000 ≤ a.e ∧ a.e ≤ 20000) : (dig B32 (numD f a).m).length ≤ 1200 ∧ -100000 ≤ (numD f a).e ∧ (numD f a).e ≤ 150000 := by
 obtain ⟨h1, h2⟩ := e0r ha.lt h
 have hl : (dig B32 (val B32 a.xs)).length ≤ 1200 := by rw [← h1]; exact h2
 have k1 := m0w a0b (⟨a.g, val B32 a.xs, wid f.g * a.e⟩ : Dv)
 have wp := b0g f.g
 have hmu := u0y (wd := wid f.g) (k := a.e) (B := 20000) wp.2 he
 refine ⟨Nat.le_trans k1 hl, ?_⟩
 unfold numD
 by_cases h0 : val B32 a.xs = 0
 · rw [h0, t0t]; simp
 · have ht := g0k (m := val B32 a.xs) (by omega)
   have hb := c0x (val B32 a.xs)
   unfold bare
   rw [if_neg h0]
   simp only
   omega
theorem k1u (f : Fm) (g : Bool) (E : Int) (e : Nat) (hE : E = e) (w : World) (G : c0g f) (he : e < 2 ^ f.E) :
 Calls Tryz.prog 171 #[(fV f), .agg #[.bool g, .int .i64 E, .slice none 0 0]] w fun en w' => en = .returned (.string (a0d (f.str g e 0))) ∧ Below w.heap.size w w' := by
 have := z0g f g E e 0 hE none 0 w G (by rw [a0e]; exact Rd.nil _ _ _) he (Nat.pow_pos (by omega))
 rw [a0e] at this
 exact this
theorem g1i (n : Int) (cls : Int) (a : Din) (w : World) (hn : IsFm n) (ha : InD w a) (hT : TabW w) :
 Calls Tryz.prog 121 #[.int .i64 n, .agg #[.int .i64 cls, .bool a.g, .slice a.p a.xs.length a.c, .int .i64 a.e]] w (v0e w (c0h (fmt n) cls a) (q0o (fmt n) cls a)) := by
 have G := b0r hn
 have HF := fun W => lHd (g0q n hn W)
 generalize fmt n = f at *
 have HR : ∀ (W : World), b0b a.xs = 0 → Rd W .u32 a.p a.xs → -20000 ≤ a.e ∧ a.e ≤ 20000 → TabW W → Hid (Calls Tryz.prog 168 #[(fV f), .agg #[.int .i64 cls, .bool a.g, .slice a.p a.xs.length a.c, .int .i64 a.e]] W (f0s W W.heap.size (numD f a))) := by
  intro W h1 h2 h3 h4
  obtain ⟨k1, k2⟩ := e0r ha.lt h1
  have hc := ha.cap
  have := p1t f a.g (val B32 a.xs) a.e cls a.p a.c W (by rw [← k1]; exact h2) (by rw [← k1]; exact hc) (by rw [← k1]; omega) ⟨by omega, by omega⟩ h4
  rw [← k1] at this
  exact lHd this
 have hB : Bare (numD f a) := k0f _
 have hbd := fun h h2 => p1v (f := f) ha h h2
 have hkp := r0z hB (c0e G.g)
 have hxl : 0 < a.xs.length ↔ a.xs.length ≠ 0 := by omega
 have hm0 : b0b a.xs = 0 → a.xs.length ≠ 0 → (numD f a).m ≠ 0 := fun h1 h2 h3 => by
  obtain ⟨k1, _⟩ := e0r ha.lt h1
  have h4 : val B32 a.xs ≠ 0 := fun h => h2 (by rw [k1]; exact (a0h a0b _).2 h)
  unfold numD bare at h3
  rw [if_neg h4] at h3
  simp only at h3
  have := (b0v (val B32 a.xs) (by omega)).2
  rw [h3] at this
  simp at this
 have hige := fun h => j1d (a := numD f a) G.g hB h
 have z2 := G.e2
 have z3 := G.f2
 have z4 := G.f1
 have hsh := r0v (E := f.E) (by omega)
 have h0T : 0 < 2 ^ f.E := Nat.pow_pos (by omega)
 have h0T2 : 2 ^ f.E ≤ 2 ^ 15 := Nat.pow_le_pow_right (by omega) (by omega)
 have HSH := lHd hsh
 have hlen := ha.len
 have hhid : f.inf = true → (f.hid = true ↔ f.ext = false) := fun h => by
  have h1 : f.fam = 1 := by unfold Fm.inf at h; simpa using h
  unfold Fm.hid
  rw [h1]
  cases f.ext <;> simp
 have rd := ha.rd
 unfold q0o
 obtain ⟨d, hD⟩ : ∃ d, numD f a = d := ⟨_, rfl⟩
 rw [hD] at HR hB hbd hkp hm0 hige ⊢
 have e1 : f.encP 1 a.g d = ⟨a.g, 0, 0⟩ := rfl
 have e2 : f.encP 2 a.g d = f.numP d := rfl
 have e3 : f.encP 3 a.g d = ⟨a.g, 2 ^ f.E - 1, if f.ext then 2 ^ 63 else 0⟩ := rfl
 have e4 : f.encP 4 a.g d = ⟨a.g, 2 ^ f.E - 1, if f.ext then 2 ^ 63 + 2 ^ 62 else 2 ^ (f.F - 1)⟩ := rfl
 have e5 : f.encP 5 a.g d = ⟨true, 0, 0⟩ := rfl
 have hF1 : 2 ^ (f.F - 1) < 2 ^ f.F := Nat.pow_lt_pow_right (by omega) (by omega)
 have hF0 : 0 < 2 ^ f.F := Nat.pow_pos (by omega)
 have hx64 : f.ext = true → 2 ^ f.F = 2 ^ 64 := fun h => by rw [(G.ext h).2.1]
 have hext : f.inf = true → f.hid = false → f.ext = true := fun h1 h2 => by
  cases hx : f.ext with
  | true => rfl
  | false => have := (hhid h1).2 hx; rw [h2] at this; cases this
 have hJ := fun (W : World) (g : Bool) (E : Int) (e x : Nat) (hE : E = e) (p : OA) (c : Nat) h h1 h2 => lHd (z0g f g E e x hE p c W G h h1 h2)
 have hJ0 := fun (W : World) (g : Bool) (E : Int) (e : Nat) (hE : E = e) h1 => lHd (k1u f g E e hE W G h1)
 have h63 : (dig B32 (2 ^ 63)).length ≤ 2 := a0u (n := 64) (by omega) (by omega)
 have h62 : (dig B32 (2 ^ 62)).length ≤ 2 := a0u (n := 64) (by omega) (by omega)
 generalize 2 ^ f.E = P at *
 clear hsh ha
 let aA : Box := ⟨98, [.v (.int .i64 (f.size : Int)), .v (.int .i64 (f.E : Int)), .v (.int .i64 (f.F : Int)), .v (.int .i64 f.g.rad), .v (.int .i64 f.g.digs), .v (.int .i64 f.g.lo), .v (.int .i64 f.g.hi), .v (.bool f.g.grad), .v (.bool f.hid), .v (.bool f.inf), .v (.bool f.res), .v (.func (.func (ordF f)) #[] #[])], false⟩
 let aB : Box := ⟨61, [.v (.int .i64 cls), .v (.bool a.g), .v (.slice a.p a.xs.length a.c), .v (.int .i64 a.e)], false⟩
 let aC : SV := .v (.agg #[.int .i64 cls, .bool a.g, .slice a.p a.xs.length a.c, .int .i64 a.e])
 have I := Inv.start w [rdF .u32 a.p a.xs, tabF] ⟨rd, hT, True.intro⟩
 refine a0c [.v (.int .i64 n), .v (.agg #[.int .i64 cls, .bool a.g, .slice a.p a.xs.length a.c, .int .i64 a.e])] I Tryz.func121 ?_
 refine zq I (fun Al W I => (HF W).out) fun Al W I => ?_
 rcases bTF (decide (cls < 1)) with f21 | f21
 · refine zb I 21 (decide (cls < 1)) (true) (f21) fun Al W I => ?_
   have hE : c0h f cls a = 6 := by unfold c0h; rw [if_pos (by (have := oTr f21; omega))]
   have hN : (6 : Int) ≠ 0 := by decide
   exact zret I fun Al W I => c0m hE hN rfl I.below
 refine zb I 21 (decide (cls < 1)) (false) (f21) fun Al W I => ?_
 rcases bTF (decide (cls > 5)) with f25 | f25
 · refine zb I 25 (decide (cls > 5)) (true) (f25) fun Al W I => ?_
   have hE : c0h f cls a = 6 := by unfold c0h; rw [if_pos (by (have := oTr f25; omega))]
   have hN : (6 : Int) ≠ 0 := by decide
   exact zret I fun Al W I => c0m hE hN rfl I.below
 refine zb I 25 (decide (cls > 5)) (false) (f25) fun Al W I => ?_
 have c1 : ¬ (cls < 1 ∨ 5 < cls) := by have := oFa f21; have := oFa f25; omega
 refine zq I (fun Al W I => h0b a.p _ a.c a.xs W I.fa.1 rfl hlen) fun Al W I => ?_
 rcases bTF ((b0b a.xs) != 0) with f31 | f31
 · refine zb I 31 ((b0b a.xs) != 0) (true) (f31) fun Al W I => ?_
   have hN : b0b a.xs ≠ 0 := bne_iff_ne.1 f31
   have hE : c0h f cls a = b0b a.xs := by unfold c0h; rw [if_neg c1, if_pos hN]
   exact zret I fun Al W I => c0m hE hN rfl I.below
 refine zb I 31 ((b0b a.xs) != 0) (false) (f31) fun Al W I => zcut I (some 3000009) (fun fr bx gs => ∃ (U1 : Nat → Value) (b55 : Bool), fr = (.v (vI n) :: aC :: vu :: .p 0 0 :: .v (Go.Value.string (ByteArray.mk #[])) :: .v (vI 0) :: .p 1 0 :: .v (vI 0) :: .v (vI (b0b a.xs)) :: su 2 (sw U1 11 6 (.v (.bool false) :: sw U1 18 8 (.v (.bool false) :: sw U1 27 4 (.v (.bool false) :: sw U1 32 23 (.v (.bool b55) :: sw U1 56 2 (vu :: sw U1 59 7 (vu :: sw U1 67 12 (vu :: sw U1 80 26 (vu :: sw U1 107 8 (su 2 (sw U1 117 5 (vu :: sw U1 123 2 (vu :: sw U1 126 10 (vu :: sw U1 137 4 (vu :: sw U1 142 5 []))))))))))))))) : List SV) ∧ bx = [aB, aA] ∧ gs = [rdF .u32 a.p a.xs, tabF] ∧ (b0b a.xs = 0) ∧ (b55 = decide (((cls = 3 ∨ cls = 4) ∧ f.inf = false) ∨ (cls = 5 ∧ f.res = false)))) ?_ ?_
 · intro J hJ Al W I
   have c2 : b0b a.xs = 0 := by simpa using f31
   rcases bTF (cls == 3) with f35 | f35
   · refine zb I 35 (cls == 3) (true) (f35) fun Al W I => ?_
     rcases bTF (f.inf) with f43 | f43
     · refine zb I 43 (f.inf) (true) (f43) fun Al W I => zb I 49 (cls == 5) (false) (bFn (by have := beq_iff_eq.1 f35; omega)) fun Al W I => a0i I J fun Al W U I => hJ _ _ _ _ _ ⟨U, false, rfl, rfl, rfl, c2, (by first | exact (dTr (.inl ⟨.inl (beq_iff_eq.1 f35), f43⟩)).symm | exact (dFa fun h => by rcases h with ⟨h, k⟩ | ⟨h, k⟩ <;> first | (rw [f43] at k; cases k; done) | (have q := beq_iff_eq.1 f35; omega)).symm)⟩ (I.pick [0, 1])
     refine zb I 43 (f.inf) (false) (f43) fun Al W I => a0i I J fun Al W U I => hJ _ _ _ _ _ ⟨U, true, rfl, rfl, rfl, c2, (by first | exact (dTr (.inl ⟨.inl (beq_iff_eq.1 f35), f43⟩)).symm | exact (dFa fun h => by rcases h with ⟨h, k⟩ | ⟨h, k⟩ <;> first | (rw [f43] at k; cases k; done) | (have q := beq_iff_eq.1 f35; omega)).symm)⟩ (I.pick [0, 1])
   refine zb I 35 (cls == 3) (false) (f35) fun Al W I => ?_
   rcases bTF (cls == 4) with f39 | f39
   · refine zb I 39 (cls == 4) (true) (f39) fun Al W I => ?_
     rcases bTF (f.inf) with f43 | f43
     · refine zb I 43 (f.inf) (true) (f43) fun Al W I => zb I 49 (cls == 5) (false) (bFn (by have := beq_iff_eq.1 f39; omega)) fun Al W I => a0i I J fun Al W U I => hJ _ _ _ _ _ ⟨U, false, rfl, rfl, rfl, c2, (by first | exact (dTr (.inl ⟨.inr (beq_iff_eq.1 f39), f43⟩)).symm | exact (dFa fun h => by rcases h with ⟨h, k⟩ | ⟨h, k⟩ <;> first | (rw [f43] at k; cases k; done) | (have q := beq_iff_eq.1 f39; omega)).symm)⟩ (I.pick [0, 1])
     refine zb I 43 (f.inf) (false) (f43) fun Al W I => a0i I J fun Al W U I => hJ _ _ _ _ _ ⟨U, true, rfl, rfl, rfl, c2, (by first | exact (dTr (.inl ⟨.inr (beq_iff_eq.1 f39), f43⟩)).symm | exact (dFa fun h => by rcases h with ⟨h, k⟩ | ⟨h, k⟩ <;> first | (rw [f43] at k; cases k; done) | (have q := beq_iff_eq.1 f39; omega)).symm)⟩ (I.pick [0, 1])
   refine zb I 39 (cls == 4) (false) (f39) fun Al W I => ?_
   rcases bTF (cls == 5) with f49 | f49
   · refine zb I 49 (cls == 5) (true) (f49) fun Al W I => ?_
     rcases bTF (f.res) with f52 | f52
     · refine zb I 52 (f.res) (true) (f52) fun Al W I => a0i I J fun Al W U I => hJ _ _ _ _ _ ⟨U, false, rfl, rfl, rfl, c2, (by first | exact (dTr (.inr ⟨beq_iff_eq.1 f49, f52⟩)).symm | exact (dFa fun h => by rcases h with ⟨h, k⟩ | ⟨h, k⟩ <;> first | (rw [f52] at k; cases k; done) | (have q := bnF f35; have q2 := bnF f39; omega)).symm)⟩ (I.pick [0, 1])
     refine zb I 52 (f.res) (false) (f52) fun Al W I => a0i I J fun Al W U I => hJ _ _ _ _ _ ⟨U, true, rfl, rfl, rfl, c2, (by first | exact (dTr (.inr ⟨beq_iff_eq.1 f49, f52⟩)).symm | exact (dFa fun h => by rcases h with ⟨h, k⟩ | ⟨h, k⟩ <;> first | (rw [f52] at k; cases k; done) | (have q := bnF f35; have q2 := bnF f39; omega)).symm)⟩ (I.pick [0, 1])
   refine zb I 49 (cls == 5) (false) (f49) fun Al W I => a0i I J fun Al W U I => hJ _ _ _ _ _ ⟨U, false, rfl, rfl, rfl, c2, (by exact (dFa fun h => by rcases h with ⟨h, k⟩ | ⟨h, k⟩ <;> first | (have q := bnF f35; have q2 := bnF f39; omega) | (have q := bnF f49; omega)).symm)⟩ (I.pick [0, 1])
 rintro _ _ _ ⟨U1, b55, rfl, rfl, rfl, c2, h55⟩ Al W I
 refine zcut I (some 2000055) (fun fr bx gs => ∃ (U2 : Nat → Value) , fr = (.v (vI n) :: aC :: vu :: .p 0 0 :: sw U2 4 2 (.p 1 0 :: .v (vI 0) :: .v (vI (b0b a.xs)) :: su 2 (sw U2 11 6 (.v (.bool false) :: sw U2 18 8 (.v (.bool false) :: sw U2 27 4 (.v (.bool false) :: sw U2 32 23 (.v (.bool b55) :: sw U2 56 2 (vu :: sw U2 59 7 (vu :: sw U2 67 12 (vu :: sw U2 80 26 (vu :: sw U2 107 8 (su 2 (sw U2 117 5 (vu :: sw U2 123 2 (vu :: sw U2 126 10 (vu :: sw U2 137 4 (vu :: sw U2 142 5 [])))))))))))))))) : List SV) ∧ bx = [aB, aA] ∧ gs = [rdF .u32 a.p a.xs, tabF] ∧ (¬ (((cls = 3 ∨ cls = 4) ∧ f.inf = false) ∨ (cls = 5 ∧ f.res = false)))) ?_ ?_
 · intro J hJ Al W I
   rcases bTF b55 with rfl | rfl
   · have hE : c0h f cls a = 5 := by unfold c0h; rw [if_neg c1, if_neg (by omega), if_pos (oTr h55.symm)]
     have hN : (5 : Int) ≠ 0 := by decide
     exact zret I fun Al W I => c0m hE hN rfl I.below
   exact a0i I J fun Al W U I => hJ _ _ _ _ _ ⟨U, rfl, rfl, rfl, (oFa h55.symm)⟩ (I.pick [0, 1])
 rintro _ _ _ ⟨U2, rfl, rfl, rfl, c3⟩ Al W I
 rcases bTF (cls == 2) with f58 | f58
 · refine zb I 58 (cls == 2) (true) (f58) fun Al W I => ?_
   have c58 : cls = 2 := beq_iff_eq.1 f58
   rcases bTF (decide (a.e < (-20000))) with f61 | f61
   · refine zb I 61 (decide (a.e < (-20000))) (true) (f61) fun Al W I => ?_
     have hE : c0h f cls a = 3 := by unfold c0h; rw [if_neg c1, if_neg (by omega), if_neg c3, if_pos c58, if_pos (by (have := oTr f61; omega))]
     have hN : (3 : Int) ≠ 0 := by decide
     exact zret I fun Al W I => c0m hE hN rfl I.below
   refine zb I 61 (decide (a.e < (-20000))) (false) (f61) fun Al W I => ?_
   rcases bTF (decide (a.e > 20000)) with f65 | f65
   · refine zb I 65 (decide (a.e > 20000)) (true) (f65) fun Al W I => ?_
     have hE : c0h f cls a = 3 := by unfold c0h; rw [if_neg c1, if_neg (by omega), if_neg c3, if_pos c58, if_pos (by (have := oTr f65; omega))]
     have hN : (3 : Int) ≠ 0 := by decide
     exact zret I fun Al W I => c0m hE hN rfl I.below
   refine zb I 65 (decide (a.e > 20000)) (false) (f65) fun Al W I => ?_
   by_cases h70 : a.xs.length = 0
   · by_cases h77 : a0s d f.g = true
     · have c4 : -20000 ≤ a.e ∧ a.e ≤ 20000 := by have := oFa f61; have := oFa f65; omega
       have hb1 := hbd c2 c4
       refine zd [] I fun Al W I => zk [0, 1, 2] I fun I => zkb 3 I ((a.xs.length : Int) == 0) (true) (beq_iff_eq.2 (by omega)) fun I => zk [4, 5, 6, 7, 8, 9, 10, 11, 12] I fun I => ?_
       have hE : c0h f cls a = 4 := by unfold c0h; rw [if_neg c1, if_neg (by omega), if_neg c3, if_pos c58, if_neg (by omega), if_pos (by first | exact .inl h70 | exact .inr (by rw [hD]; simpa using h77))]
       have hN : (4 : Int) ≠ 0 := by decide
       exact zret I fun Al W I => c0m hE hN rfl I.below
     have c4 : -20000 ≤ a.e ∧ a.e ≤ 20000 := by have := oFa f61; have := oFa f65; omega
     have hb1 := hbd c2 c4
     refine zd [] I fun Al W I => zk [0, 1, 2] I fun I => zkb 3 I ((a.xs.length : Int) == 0) (true) (beq_iff_eq.2 (by omega)) fun I => zk [4, 5, 6, 7, 8, 9, 10, 11, 12] I fun I => ?_
     have hE : c0h f cls a = 4 := by unfold c0h; rw [if_neg c1, if_neg (by omega), if_neg c3, if_pos c58, if_neg (by omega), if_pos (by first | exact .inl h70 | exact .inr (by rw [hD]; simpa using h77))]
     have hN : (4 : Int) ≠ 0 := by decide
     exact zret I fun Al W I => c0m hE hN rfl I.below
   by_cases h77 : a0s d f.g = true
   · have c4 : -20000 ≤ a.e ∧ a.e ≤ 20000 := by have := oFa f61; have := oFa f65; omega
     have hb1 := hbd c2 c4
     refine zd [] I fun Al W I => zk [0, 1, 2] I fun I => zkb 3 I ((a.xs.length : Int) == 0) (false) (bFn (by omega)) fun I => zk [4, 5, 6, 8, 9] I fun I => zo 7 I fun I => zqo I (fun Al W I => (HR W c2 I.fa.1 c4 I.fa.2.1).out) fun Al W p74 c74 I => zo 10 I fun I => zqd I (fun Al W I => have hzW := I.bel.size; q0n d.neg p74 c74 d.e d.m f.g W I.fa.1.rd (by omega) (by omega) (c0e G.g)) (show (h0y ⟨d.neg, d.m, d.e⟩ f.g) = true from hkp.trans h77) fun Al W I => zk [11, 12] I fun I => ?_
     have hi := hige h77
     refine zd [] I fun Al W I => zk [0, 1, 2] I fun I => zo 3 I fun I => zqo I (fun Al W I => (HR W c2 I.fa.2.1 c4 I.fa.2.2.1).out) fun Al W p83 c83 I => zo 4 I fun I => zq I (fun Al W I => have hzW := I.bel.size; b1u f d p83 c83 W G I.fa.1.rd hb1.1 (by omega) h77 (hm0 c2 h70)) fun Al W I => zk [5, 6] I fun I => ?_
     have hE : c0h f cls a = 0 := by unfold c0h; rw [if_neg c1, if_neg (by omega), if_neg c3, if_pos c58, if_neg (by omega), if_neg (fun h => by rcases h with h | h <;> first | exact h70 h | (rw [hD, h77] at h; cases h; done))]
     exact zret I (v := fun Al => .tuple #[.string (a0d (f.strP (f.numP d))), vI 0]) fun Al W I => f0v hE (by rw [show cls.toNat = 2 by omega, e2]) rfl I.below
   have c4 : -20000 ≤ a.e ∧ a.e ≤ 20000 := by have := oFa f61; have := oFa f65; omega
   have hb1 := hbd c2 c4
   refine zd [] I fun Al W I => zk [0, 1, 2] I fun I => zkb 3 I ((a.xs.length : Int) == 0) (false) (bFn (by omega)) fun I => zk [4, 5, 6, 8, 9] I fun I => zo 7 I fun I => zqo I (fun Al W I => (HR W c2 I.fa.1 c4 I.fa.2.1).out) fun Al W p74 c74 I => zo 10 I fun I => zqd I (fun Al W I => have hzW := I.bel.size; q0n d.neg p74 c74 d.e d.m f.g W I.fa.1.rd (by omega) (by omega) (c0e G.g)) (show (h0y ⟨d.neg, d.m, d.e⟩ f.g) = false from hkp.trans (by simpa using h77)) fun Al W I => zk [11, 12] I fun I => ?_
   have hE : c0h f cls a = 4 := by unfold c0h; rw [if_neg c1, if_neg (by omega), if_neg c3, if_pos c58, if_neg (by omega), if_pos (by first | exact .inl h70 | exact .inr (by rw [hD]; simpa using h77))]
   have hN : (4 : Int) ≠ 0 := by decide
   exact zret I fun Al W I => c0m hE hN rfl I.below
 refine zb I 58 (cls == 2) (false) (f58) fun Al W I => zcut I (some 3000017) (fun fr bx gs => ∃ (U3 : Nat → Value) (b106 : Bool), fr = (.v (vI n) :: aC :: vu :: .p 0 0 :: sw U2 4 2 (.p 1 0 :: .v (vI 0) :: .v (vI (b0b a.xs)) :: su 2 (sw U3 11 6 (.v (.bool false) :: sw U3 18 8 (.v (.bool false) :: sw U3 27 4 (.v (.bool false) :: sw U3 32 23 (.v (.bool b55) :: sw U3 56 2 (.v (.bool false) :: sw U3 59 7 (vu :: sw U3 67 12 (vu :: sw U3 80 26 (.v (.bool b106) :: sw U3 107 8 (su 2 (sw U3 117 5 (vu :: sw U3 123 2 (vu :: sw U3 126 10 (vu :: sw U3 137 4 (vu :: sw U3 142 5 [])))))))))))))))) : List SV) ∧ bx = [aB, aA] ∧ gs = [rdF .u32 a.p a.xs, tabF] ∧ (cls ≠ 2) ∧ (b106 = decide (0 < a.xs.length ∨ a.e ≠ 0 ∨ (a.g = true ∧ (4 ≤ cls ∨ f.res = true))))) ?_ ?_
 · intro J hJ Al W I
   have c58 : cls ≠ 2 := bnF f58
   rcases bTF (decide ((a.xs.length : Int) > 0)) with f88 | f88
   · refine zb I 88 (decide ((a.xs.length : Int) > 0)) (true) (f88) fun Al W I => a0i I J fun Al W U I => hJ _ _ _ _ _ ⟨U, true, rfl, rfl, rfl, c58, (by exact (dTr (.inl (by have := oTr f88; omega))).symm)⟩ (I.pick [0, 1])
   refine zb I 88 (decide ((a.xs.length : Int) > 0)) (false) (f88) fun Al W I => ?_
   rcases bTF (a.e != 0) with f92 | f92
   · refine zb I 92 (a.e != 0) (true) (f92) fun Al W I => a0i I J fun Al W U I => hJ _ _ _ _ _ ⟨U, true, rfl, rfl, rfl, c58, (by first | exact (dTr (.inr (.inl (bne_iff_ne.1 f92)))).symm | exact (dFa fun h => by rcases h with h | h | ⟨h, k⟩ <;> first | (have := oFa f88; omega) | (rw [show (a.e != 0) = true from bne_iff_ne.2 h] at f92; cases f92; done)).symm)⟩ (I.pick [0, 1])
   refine zb I 92 (a.e != 0) (false) (f92) fun Al W I => ?_
   rcases bTF (a.g) with f96 | f96
   · refine zb I 96 (a.g) (true) (f96) fun Al W I => ?_
     rcases bTF (decide (cls ≥ 4)) with f100 | f100
     · refine zb I 100 (decide (cls ≥ 4)) (true) (f100) fun Al W I => a0i I J fun Al W U I => hJ _ _ _ _ _ ⟨U, true, rfl, rfl, rfl, c58, (by first | exact (dTr (.inr (.inr ⟨f96, .inl (oTr f100)⟩))).symm | exact (dFa fun h => by rcases h with h | h | ⟨h, k⟩ <;> first | (have := oFa f88; omega) | (rw [show (a.e != 0) = true from bne_iff_ne.2 h] at f92; cases f92; done) | (rw [f96] at h; cases h; done)).symm)⟩ (I.pick [0, 1])
     refine zb I 100 (decide (cls ≥ 4)) (false) (f100) fun Al W I => ?_
     rcases bTF (f.res) with f103 | f103
     · refine zb I 103 (f.res) (true) (f103) fun Al W I => a0i I J fun Al W U I => hJ _ _ _ _ _ ⟨U, true, rfl, rfl, rfl, c58, (by first | exact (dTr (.inr (.inr ⟨f96, .inr f103⟩))).symm | exact (dFa fun h => by rcases h with h | h | ⟨h, k⟩ <;> first | (have := oFa f88; omega) | (rw [show (a.e != 0) = true from bne_iff_ne.2 h] at f92; cases f92; done) | (rw [f96] at h; cases h; done) | (rcases k with k | k <;> first | (have := oFa f100; omega) | (rw [f103] at k; cases k; done))).symm)⟩ (I.pick [0, 1])
     refine zb I 103 (f.res) (false) (f103) fun Al W I => a0i I J fun Al W U I => hJ _ _ _ _ _ ⟨U, false, rfl, rfl, rfl, c58, (by first | exact (dTr (.inr (.inr ⟨f96, .inr f103⟩))).symm | exact (dFa fun h => by rcases h with h | h | ⟨h, k⟩ <;> first | (have := oFa f88; omega) | (rw [show (a.e != 0) = true from bne_iff_ne.2 h] at f92; cases f92; done) | (rw [f96] at h; cases h; done) | (rcases k with k | k <;> first | (have := oFa f100; omega) | (rw [f103] at k; cases k; done))).symm)⟩ (I.pick [0, 1])
   refine zb I 96 (a.g) (false) (f96) fun Al W I => a0i I J fun Al W U I => hJ _ _ _ _ _ ⟨U, false, rfl, rfl, rfl, c58, (by exact (dFa fun h => by rcases h with h | h | ⟨h, k⟩ <;> first | (have := oFa f88; omega) | (rw [show (a.e != 0) = true from bne_iff_ne.2 h] at f92; cases f92; done) | (rw [f96] at h; cases h; done)).symm)⟩ (I.pick [0, 1])
 rintro _ _ _ ⟨U3, b106, rfl, rfl, rfl, c58, h106⟩ Al W I
 refine zcut I (some 2000106) (fun fr bx gs => ∃ (U4 : Nat → Value) , fr = (.v (vI n) :: aC :: vu :: .p 0 0 :: sw U4 4 2 (.p 1 0 :: .v (vI 0) :: .v (vI (b0b a.xs)) :: su 2 (sw U4 11 6 (.v (.bool false) :: sw U4 18 8 (.v (.bool false) :: sw U4 27 4 (.v (.bool false) :: sw U4 32 23 (.v (.bool b55) :: sw U4 56 2 (.v (.bool false) :: sw U4 59 7 (vu :: sw U4 67 12 (vu :: sw U4 80 26 (.v (.bool b106) :: sw U4 107 8 (su 2 (sw U4 117 5 (vu :: sw U4 123 2 (vu :: sw U4 126 10 (vu :: sw U4 137 4 (vu :: sw U4 142 5 [])))))))))))))))) : List SV) ∧ bx = [aB, aA] ∧ gs = [rdF .u32 a.p a.xs, tabF] ∧ (¬ (0 < a.xs.length ∨ a.e ≠ 0 ∨ (a.g = true ∧ (4 ≤ cls ∨ f.res = true))))) ?_ ?_
 · intro J hJ Al W I
   rcases bTF b106 with rfl | rfl
   · have hE : c0h f cls a = 4 := by unfold c0h; rw [if_neg c1, if_neg (by omega), if_neg c3, if_neg c58, if_pos (oTr h106.symm)]
     have hN : (4 : Int) ≠ 0 := by decide
     exact zret I fun Al W I => c0m hE hN rfl I.below
   exact a0i I J fun Al W U I => hJ _ _ _ _ _ ⟨U, rfl, rfl, rfl, (oFa h106.symm)⟩ (I.pick [0, 1])
 rintro _ _ _ ⟨U4, rfl, rfl, rfl, c4⟩ Al W I
 have hE : c0h f cls a = 0 := by unfold c0h; rw [if_neg c1, if_neg (by omega), if_neg c3, if_neg c58, if_neg c4]
 refine zbin I 109 _ (fun _ _ _ _ _ => n0y .i64 (1) .i64 (f.E : Int) ((P : Int)) (by omega) ((HSH.out))) fun Al W I => zi I 110 .i64 ((P : Int) - 1) (((P - 1 : Nat) : Int)) ((by rw [show ((P : Int) - 1) = ((P - 1 : Nat) : Int) by omega]; exact iwo)) fun Al W I => ?_
 rcases bTF (cls == 3) with f35 | f35
 · refine zb I 117 (cls == 3) (true) (f35) fun Al W I => ?_
   have f43 : f.inf = true := by cases hq : f.inf with | true => rfl | false => exact absurd (.inl ⟨.inl (beq_iff_eq.1 f35), hq⟩) c3
   rcases bTF (f.hid) with f121 | f121
   · refine zb I 121 (f.hid) (true) (f121) fun Al W I => zg I (fun Al W I => have hzW := I.bel.size; (hJ0 W a.g ((P - 1 : Nat) : Int) (P - 1) rfl (by omega)).out) fun Al V Iv _ hB _ kz => ?_
     rintro _ W ⟨rfl, hb⟩
     have hS : a0d (f.strP (f.encP cls.toNat a.g d)) = a0d (f.str a.g (P - 1) 0) := by rw [show cls.toNat = 3 by have := beq_iff_eq.1 f35; omega, e3, if_neg (by rw [(hhid f43).1 f121]; simp)]; rfl
     refine ⟨_, rfl, kz _ _ hb fun I => ?_⟩
     exact zret I fun Al W I => f0v hE hS rfl I.below
   refine zb I 121 (f.hid) (false) (f121) fun Al W I => zqo I (fun Al W I => have hzW := I.bel.size; i0f 63 (2 ^ 63) 63 W (by omega) rfl rfl) fun Al W p123 c123 I => zg I (fun Al W I => have hzW := I.bel.size; (hJ W a.g ((P - 1 : Nat) : Int) (P - 1) (2 ^ 63) rfl p123 c123 I.fa.1.rd (by omega) (by rw [hx64 (hext f43 f121)]; omega)).out) fun Al V Iv _ hB _ kz => ?_
   rintro _ W ⟨rfl, hb⟩
   have hS : a0d (f.strP (f.encP cls.toNat a.g d)) = a0d (f.str a.g (P - 1) (2 ^ 63)) := by rw [show cls.toNat = 3 by have := beq_iff_eq.1 f35; omega, e3, if_pos (hext f43 f121)]; rfl
   refine ⟨_, rfl, kz _ _ hb fun I => ?_⟩
   exact zret I fun Al W I => f0v hE hS rfl I.below
 refine zb I 117 (cls == 3) (false) (f35) fun Al W I => ?_
 rcases bTF (cls == 4) with f39 | f39
 · refine zb I 126 (cls == 4) (true) (f39) fun Al W I => ?_
   have f43 : f.inf = true := by cases hq : f.inf with | true => rfl | false => exact absurd (.inl ⟨.inr (beq_iff_eq.1 f39), hq⟩) c3
   refine zi I 130 .i64 ((f.F : Int) - 1) (((f.F - 1 : Nat) : Int)) ((by rw [show ((f.F : Int) - 1) = ((f.F - 1 : Nat) : Int) by omega]; exact iwo)) fun Al W I => zqo I (fun Al W I => have hzW := I.bel.size; i0f (f.F - 1) (2 ^ (f.F - 1)) _ W (by omega) rfl rfl) fun Al W p131 c131 I => ?_
   rcases bTF (f.hid) with f135 | f135
   · refine zb I 135 (f.hid) (true) (f135) fun Al W I => zg I (fun Al W I => have hzW := I.bel.size; (hJ W a.g ((P - 1 : Nat) : Int) (P - 1) (2 ^ (f.F - 1)) rfl p131 c131 I.fa.1.rd (by omega) hF1).out) fun Al V Iv _ hB _ kz => ?_
     rintro _ W ⟨rfl, hb⟩
     have hS : a0d (f.strP (f.encP cls.toNat a.g d)) = a0d (f.str a.g (P - 1) (2 ^ (f.F - 1))) := by rw [show cls.toNat = 4 by have := beq_iff_eq.1 f39; omega, e4, if_neg (by rw [(hhid f43).1 f135]; simp)]; rfl
     refine ⟨_, rfl, kz _ _ hb fun I => ?_⟩
     exact zret I fun Al W I => f0v hE hS rfl I.below
   refine zb I 135 (f.hid) (false) (f135) fun Al W I => zqo I (fun Al W I => have hzW := I.bel.size; i0f 63 (2 ^ 63) 63 W (by omega) rfl rfl) fun Al W p137 c137 I => zqo I (fun Al W I => have hzW := I.bel.size; i0f 62 (2 ^ 62) 62 W (by omega) rfl rfl) fun Al W p138 c138 I => zqo I (fun Al W I => have hzW := I.bel.size; sadd p137 p138 _ _ c137 c138 (2 ^ 63) (2 ^ 62) (2 ^ 63 + 2 ^ 62) W I.fa.2.1.rd I.fa.1.rd rfl rfl (by omega) (by omega) rfl) fun Al W p139 c139 I => zg I (fun Al W I => have hzW := I.bel.size; (hJ W a.g ((P - 1 : Nat) : Int) (P - 1) (2 ^ 63 + 2 ^ 62) rfl p139 c139 I.fa.1.rd (by omega) (by rw [hx64 (hext f43 f135)]; omega)).out) fun Al V Iv _ hB _ kz => ?_
   rintro _ W ⟨rfl, hb⟩
   have hS : a0d (f.strP (f.encP cls.toNat a.g d)) = a0d (f.str a.g (P - 1) (2 ^ 63 + 2 ^ 62)) := by rw [show cls.toNat = 4 by have := beq_iff_eq.1 f39; omega, e4, if_pos (hext f43 f135)]; rfl
   refine ⟨_, rfl, kz _ _ hb fun I => ?_⟩
   exact zret I fun Al W I => f0v hE hS rfl I.below
 refine zb I 126 (cls == 4) (false) (f39) fun Al W I => ?_
 rcases bTF (cls == 5) with f49 | f49
 · refine zb I 142 (cls == 5) (true) (f49) fun Al W I => zg I (fun Al W I => (hJ0 W true 0 0 rfl h0T).out) fun Al V Iv _ hB _ kz => ?_
   rintro _ W ⟨rfl, hb⟩
   have hS : a0d (f.strP (f.encP cls.toNat a.g d)) = a0d (f.str true 0 0) := by rw [show cls.toNat = 5 by have := beq_iff_eq.1 f49; omega, e5]; rfl
   refine ⟨_, rfl, kz _ _ hb fun I => ?_⟩
   exact zret I fun Al W I => f0v hE hS rfl I.below
 refine zb I 142 (cls == 5) (false) (f49) fun Al W I => zg I (fun Al W I => (hJ0 W a.g 0 0 rfl h0T).out) fun Al V Iv _ hB _ kz => ?_
 rintro _ W ⟨rfl, hb⟩
 have hS : a0d (f.strP (f.encP cls.toNat a.g d)) = a0d (f.str a.g 0 0) := by rw [show cls.toNat = 1 by have := bnF f49; have := bnF f35; have := bnF f39; omega, e1]; rfl
 refine ⟨_, rfl, kz _ _ hb fun I => ?_⟩
 exact zret I fun Al W I => f0v hE hS rfl I.below
end Go.Proofs.YtgbbhlginbmghaaGreatDoor
namespace Go.Slip
def b1v (N : Nat) (D : List Nat) (i d A : Nat) : Prop := (∀ x ∈ D, x < 10) ∧ d < 10 ^ (4 - i) ∧ N = val 10 D + 10 ^ D.length * (d + 10 ^ (4 - i) * A)
def o0y (N : Nat) (D : List Nat) (A : Nat) : Prop := (∀ x ∈ D, x < 10) ∧ N = val 10 D + 10 ^ D.length * A
theorem o0y.start (N : Nat) : o0y N [] N := ⟨by simp, by simp⟩
theorem o0y.enter {N : Nat} {D : List Nat} {A : Nat} (h : o0y N D A) : b1v N D 0 (A % 10000) (A / 10000) := by
 refine ⟨h.1, Nat.mod_lt _ (by omega), ?_⟩
 rw [h.2]
 congr 2
 have := Nat.mod_add_div A 10000
 show A = A % 10000 + 10000 * (A / 10000)
 omega
theorem b1v.step {N : Nat} {D : List Nat} {i d A : Nat} (h : b1v N D i d A) (hi : i < 4) : b1v N (D ++ [d % 10]) (i + 1) (d / 10) A := by
 obtain ⟨h1, h2, h3⟩ := h
 have e : 4 - i = 4 - (i + 1) + 1 := by omega
 rw [e, Nat.pow_succ] at h2 h3
 refine ⟨fun x hx => ?_, by omega, ?_⟩
 · rcases List.mem_append.1 hx with hx | hx
   · exact h1 x hx
   · simp at hx; omega
 · rw [h3, e0i, List.length_append, List.length_singleton, Nat.pow_succ]
   have := Nat.mod_add_div d 10
   generalize d % 10 = s at *
   generalize d / 10 = q at *
   subst this
   grind
theorem b1v.leave {N : Nat} {D : List Nat} {d A : Nat} (h : b1v N D 4 d A) : o0y N D A := by
 obtain ⟨h1, h2, h3⟩ := h
 have hd : d = 0 := by simpa using h2
 subst hd
 exact ⟨h1, by rw [h3]; simp⟩
theorem o0y.size {N : Nat} {D : List Nat} {A : Nat} (h : o0y N D A) (hA : 0 < A) : D.length ≤ 16 * (dig B16 N).length := by
 have h1 : 10 ^ D.length ≤ N := by
  rw [h.2]
  have := Nat.le_mul_of_pos_right (10 ^ D.length) hA
  omega
 have h2 := (a0g l0p N _).1 (Nat.le_refl _)
 have h3 : B16 ^ (dig B16 N).length = 2 ^ (16 * (dig B16 N).length) := by rw [Nat.pow_mul]; congr 1
 have h4 : 2 ^ D.length ≤ 10 ^ D.length := Nat.pow_le_pow_left (by omega) _
 have h5 : 2 ^ D.length < 2 ^ (16 * (dig B16 N).length) := by rw [← h3]; omega
 exact Nat.le_of_lt ((Nat.pow_lt_pow_iff_right (by omega)).1 h5)
end Go.Slip
namespace Go.Proofs.YtgbbhlginbmghaaGreatDoor
open Go.RowKit Go.Slip
theorem _root_.Go.Slip.SmallRel.skip {B : Nat} {L xs : List Nat} {d k r : Nat} (h : SmallRel B L xs d (k + 1) r) (hk : k < xs.length) (hL : k < L.length) (hx : dg xs k < B) (hz : dg L k = 0) (hlt : r * B + dg xs k < d) : SmallRel B L xs d k (r * B + dg xs k) := by
 have h1 := (h.step hk hL hx).1
 rw [Nat.div_eq_of_lt hlt, Nat.mod_eq_of_lt hlt, i1h L k hz] at h1
 exact h1
instance decDv : DecidableEq Dv := fun a b => decidable_of_iff (a.neg = b.neg ∧ a.m = b.m ∧ a.e = b.e) ⟨fun h => Dv.ext' h.1 h.2.1 h.2.2, fun h => by subst h; exact ⟨rfl, rfl, rfl⟩⟩
structure InF (w : World) (base : Nat) (a : Rw) : Prop where
 rd : Rd w .i64 a.p (dig B16 a.m)
 cap : (dig B16 a.m).length ≤ a.c
 len : (dig B16 a.m).length ≤ 1000000
 lo : -1000000 ≤ a.e
 hi : a.e ≤ 1000000
 at_ : 0 < (dig B16 a.m).length → base ≤ blk a.p
theorem InF.past {w w' : World} {base : Nat} {a : Rw} (h : InF w base a) (hb : Below w.heap.size w w') : InF w' base a := ⟨h.rd.past hb, h.cap, h.len, h.lo, h.hi, h.at_⟩
theorem InF.drew {w : World} {base : Nat} {a : Rw} (h : InF w base a) : InF w.drew base a := ⟨h.rd.drew, h.cap, h.len, h.lo, h.hi, h.at_⟩
theorem InF.mono {w : World} {base base' : Nat} {a : Rw} (h : InF w base a) (hb : base' ≤ base) : InF w base' a := ⟨h.rd, h.cap, h.len, h.lo, h.hi, fun k => Nat.le_trans hb (h.at_ k)⟩
theorem InF.only {w w' : World} {base k : Nat} {a : Rw} (h : InF w base a) (hb : Only k w w') (hne : 0 < (dig B16 a.m).length → blk a.p ≠ k) : InF w' base a := ⟨h.rd.only hb hne, h.cap, h.len, h.lo, h.hi, h.at_⟩
theorem InF.lt {w : World} {base : Nat} {a : Rw} (h : InF w base a) : 0 < (dig B16 a.m).length → blk a.p < w.heap.size := fun k => h.rd.lt k
end Go.Proofs.YtgbbhlginbmghaaGreatDoor
namespace Go.Slip
theorem g1j {neg : Bool} {num den : Nat} {e : Int} {g : Gd} {way : Int} (hd : 0 < den) (G : f0c g) : (dig B32 (a0m neg num den e g way).d).length ≤ 16 := by
 unfold a0m
 by_cases h0 : num = 0
 · rw [if_pos h0]; simp [a0e]
 · rw [if_neg h0]
   have hK := j0s (num := num) (by omega) hd e (w := wid g) (D := g.digs.toNat) (b0g g).1 (by have := G.d1; omega)
   have h1 := j1c (neg := neg) (way := way) hd G hK
   have h2 : wid g * g.digs.toNat ≤ 480 := by
    have := Nat.mul_le_mul (b0g g).2 (show g.digs.toNat ≤ 120 by have := G.d2; omega)
    omega
   exact Nat.le_trans (a0l a0b (Nat.le_of_lt h1)) (g0z h2)
theorem t1g {neg : Bool} {num den : Nat} {e : Int} {g : Gd} {way : Int} (_ : 0 < den) (G : f0c g) (hok : okP (a0m neg num den e g way) g = true) : -17000 ≤ (a0m neg num den e g way).pow ∧ (a0m neg num den e g way).pow ≤ 17000 := by
 unfold a0m at *
 by_cases h0 : num = 0
 · rw [if_pos h0]; simp
 · rw [if_neg h0] at *
   generalize theK num den e (wid g) g.digs.toNat = K at *
   have hover : powP neg num den e (wid g) g.digs.toNat way (powK g K) ≤ g.hi := by
    unfold okP at hok
    have : (fitK neg num den e g way K).over = decide (g.hi < powP neg num den e (wid g) g.digs.toNat way (powK g K)) := rfl
    rw [this] at hok
    simp only [Bool.and_eq_true, Bool.not_eq_true', decide_eq_false_iff_not] at hok
    omega
   have hlow : g.lo ≤ powK g K := by
    unfold okP at hok
    have : (fitK neg num den e g way K).under = decide (K < g.lo) := rfl
    rw [this] at hok
    simp only [Bool.and_eq_true, Bool.or_eq_true, Bool.not_eq_true', decide_eq_false_iff_not] at hok
    unfold powK
    rcases hok.2 with h | h
    · rw [if_neg (fun k => h k.1)]; omega
    · by_cases hu : K < g.lo
      · rw [if_pos ⟨hu, h⟩]; omega
      · rw [if_neg (fun k => hu k.1)]; omega
   have h1 := G.l1
   have h2 := G.h2
   have hp : (fitK neg num den e g way K).pow = if digP neg num den e (wid g) g.digs.toNat way (powK g K) = 0 then 0 else powP neg num den e (wid g) g.digs.toNat way (powK g K) := rfl
   rw [hp]
   have h3 : powK g K ≤ powP neg num den e (wid g) g.digs.toNat way (powK g K) := by unfold powP; split <;> omega
   split
   · omega
   · omega
end Go.Slip
namespace Go.Slip
open Go.RowKit
def v0f : List (Nat × SV) → Cfg → Cfg
 | [], c => c
 | (i, y) :: l, c => v0f l (i0x i y c)
section
variable {P : Program} {Q : Exit → Act → World → Prop} {E : List Nat} {w0 : World} {A : List Nat} {fs : List PF} {W : World} {c c' : Cfg}
theorem m0r (_ : Inv E w0 A c.bx fs W) (l : List (Nat × SV)) (h1 : ∀ A W, Inv E w0 A (nrm (v0f l c)).bx fs W → G P Q A (nrm (v0f l c)) W)
 (h2 : (∀ A W, Inv E w0 A (nrm (v0f l c)).bx fs W → G P Q A (nrm (v0f l c)) W) → G P Q A c W) : G P Q A c W := h2 h1
theorem zuse (K : ∀ A W, Inv E w0 A c'.bx fs W → G P Q A c' W) (I : Inv E w0 A c.bx fs W) (he : c = c' := by kernel_rfl) : G P Q A c W := by
 subst he
 exact K _ _ I
end
end Go.Slip
namespace Go.Slip
open Go.RowKit
def n1o (i : Nat) (c : Cfg) (A : List Nat) : Option VO :=
 match c.rg with
 | .dr ops _ _ (_ + 1) listed => match ops[i]? with
  | some o => match Region.noSelect ops && Region.free .any ops listed i && (Region.ready .any ops listed).contains i && wnt ops c.fr o with
   | true => match o.op with
    | .indexAddr t x j => some (.ix t (evr A c.fr x) (evr A c.fr j))
    | _ => none
   | false => none
  | none => none
 | _ => none
section
variable {P : Program} {Q : Exit → Act → World → Prop} {E : List Nat} {w0 : World} {A : List Nat} {fs : List PF} {W : World} {c : Cfg}
theorem zkx (i : Nat) (I : Inv E w0 A c.bx fs W) {vo : VO} (v : Value) (hx : ∀ W, vo.sem.run P W = .ok v W) (h : Inv E w0 A (i0x i (.v v) c).bx fs W → G P Q A (i0x i (.v v) c) W)
 (hv : n1o i c A = some vo := by kernel_rfl) (hm : dk1 c.rg c.bx = dk2 c.rg := by kernel_rfl) (hQ : g0b Q := by exact d0u) : G P Q A c W := by
 refine ⟨?_⟩
 have h := (h (by rw [r0t]; exact I)).out
 obtain ⟨cf, cb, rg, ks⟩ := c
 cases rg with
 | off => cases hv
 | pl => cases hv
 | one => cases hv
 | ret => cases hv
 | dr ops A0 m fuel listed =>
  cases fuel with
  | zero => cases hv
  | succ fuel =>
   unfold n1o at hv
   unfold i0x at h
   simp only at hv h
   intro pre
   split at hv
   · rename_i o hi
     rw [hi] at h
     split at hv
     · rename_i h1
       simp only [Bool.and_eq_true] at h1
       obtain ⟨⟨⟨h1, h2⟩, h3⟩, hw⟩ := h1
       split at hv
       · rename_i t x j hop
         simp only [Option.some.injEq] at hv
         subst hv
         have hS : SB A0 m W := a1q I pre hm
         have h : WpH P ops (post P Q ks) (SB A0 m) fuel (listed.setIfInBounds i true) (act A (putO cf o.dst (.v v))) W := h pre
         rw [← c0a] at h
         refine n0q i o.dst v _ hi rfl rfl h1 h2 h3 (fun c a w => e0g (P := P) hQ ks c a o.dst v w) (.inl ⟨by rw [d0k]; exact hw, fun w' _ => ?_⟩) hS h
         rw [b0j]
         unfold execOp
         have := hx w'
         unfold VO.sem at this
         simp only [hop, Sem.run_bind, this, Result.andThen_ok, Sem.run_pure]
       · cases hv
     · cases hv
   · cases hv
end
end Go.Slip
namespace Go.Slip
def l0c (K e f k : Nat) : Prop := e + f * k = K
theorem l0c.bd {K e f k : Nat} (h : l0c K e f k) (hk : 0 < k) : e + f ≤ K := by
 unfold l0c at h
 have := Nat.le_mul_of_pos_right f hk
 omega
theorem l0c.two {K e f k : Nat} (h : l0c K e f k) (hk : 1 < k) : f + f ≤ K := by
 unfold l0c at h
 have := Nat.mul_le_mul_left f (show 2 ≤ k from hk)
 omega
theorem l0c.step {K e f k : Nat} (h : l0c K e f k) : l0c K (e + f * (k % 2)) (f + f) (k / 2) := by
 unfold l0c at h ⊢
 have h1 := Nat.div_add_mod k 2
 have h2 : f * k = f * (2 * (k / 2)) + f * (k % 2) := by rw [← Nat.mul_add, h1]
 have h3 : (f + f) * (k / 2) = f * (2 * (k / 2)) := by grind
 omega
theorem l0d {B a K e : Nat} (hB : 2 ≤ B) (ha : a < B) (h : e ≤ K) (hK : 1 ≤ K) : (dig B (a ^ e)).length ≤ K := by
 rw [a0g hB]
 by_cases h0 : e = 0
 · subst h0
   rw [Nat.pow_zero]
   exact Nat.lt_of_lt_of_le (show 1 < B ^ 1 by rw [Nat.pow_one]; omega) (Nat.pow_le_pow_right (by omega) hK)
 · exact Nat.lt_of_lt_of_le (Nat.pow_lt_pow_left ha h0) (Nat.pow_le_pow_right (by omega) h)
end Go.Slip
namespace Go.Proofs.YtgbbhlginbmghaaGreatDoor
open Go.RowKit Go.Slip
theorem p1w (n : Int) : bits .and .i64 n 1 = n % 2 := by
 have h1 : (BitVec.ofInt 64 1).toNat = 2 ^ 1 - 1 := by decide
 have key : (BitVec.ofInt 64 n &&& BitVec.ofInt 64 1).toNat = (n % ((2 ^ 64 : Nat) : Int)).toNat % 2 ^ 1 := by
  rw [BitVec.toNat_and, BitVec.toNat_ofInt, h1, Nat.and_two_pow_sub_one_eq_mod]
 show IntKind.i64.wrap ((BitVec.ofInt 64 n &&& BitVec.ofInt 64 1).toNat : Nat) = n % 2
 rw [key, IntKind.wrap_i64]
 omega
theorem z0h (base : Nat) (p : OA) (c : Nat) (a K : Nat) (w : World) (hp : Own w base .u32 139 p c (dig B32 a)) (hb : base ≤ w.heap.size) (ha : a < 100) (hK : K ≤ 1000000) :
 Calls Tryz.prog 47 #[.slice p (dig B32 a).length c, .int .i64 (K : Int)] w fun en w' => ∃ q d, en = .returned (.slice q (dig B32 (a ^ K)).length d) ∧ Own w' base .u32 139 q d (dig B32 (a ^ K)) ∧ Below w.heap.size w w' := by
 have hl : ∀ e, e ≤ K + 1 → (dig B32 (a ^ e)).length ≤ 1000001 := fun e he => Nat.le_trans (l0d (K := K + 1) a0b (by unfold B32; omega) he (by omega)) (by omega)
 have HM := fun W p q c d e f (h1 : e ≤ K + 1) (h2 : f ≤ K + 1) hp hq => lHd (show Calls Tryz.prog 48 #[.slice p (dig B32 (a ^ e)).length c, .slice q (dig B32 (a ^ f)).length d] W (f0w W .u32 139 (dig B32 (a ^ (e + f)))) by rw [Nat.pow_add]; exact o0p p q _ _ c d (a ^ e) (a ^ f) W hp hq rfl rfl (by have := hl e h1; have := hl f h2; omega))
 have h1 : dig B32 1 = dig B32 (a ^ 0) := by rw [Nat.pow_zero]
 have ha1 : dig B32 a = dig B32 (a ^ 1) := by rw [Nat.pow_one]
 have HO := fun W => lHd (sof 1 1 rfl (by omega) W)
 rw [h1] at HO
 rw [ha1] at hp ⊢
 clear h1 ha1
 have I := Inv.start w [ownF base .u32 139 p c (dig B32 (a ^ 1))] ⟨hp, True.intro⟩
 refine a0c [.v (.slice p (dig B32 (a ^ 1)).length c), .v (.int .i64 (K : Int))] I Tryz.func47 ?_
 refine zg I (fun Al W I => (HO W).out) fun Al V Iv _ hB _ kz => ?_
 rintro _ W ⟨p6, c6, rfl, o6, hb⟩
 refine ⟨_, rfl, kz _ _ hb fun I => ?_⟩
 have I := I.ownB base o6
 refine h0u I (fun gk fr bx gs => ∃ (U900 : Nat → Value) (e : Nat) (f : Nat) (k : Nat) (p0 : OA) (c0 : Nat) (p5 : OA) (c5 : Nat), fr = (.v (.slice p0 (dig B32 (a ^ f)).length c0) :: .v (.int .i64 (k : Int)) :: su 2 (.v (.slice none 0 0) :: .v (.slice p5 (dig B32 (a ^ e)).length c5) :: sw U900 6 17 []) : List SV) ∧ bx = [] ∧ gs = [ownF base .u32 139 p5 c5 (dig B32 (a ^ e)), ownF base .u32 139 p0 c0 (dig B32 (a ^ f))] ∧ (l0c K e f k) ∧ (f ≤ K + 1) ∧ (k ≤ K) ∧ (gk = k)) K (fun Al W U I => ⟨_, ⟨U, 0, 1, K, p, c, p6, c6, rfl, rfl, rfl, (by unfold l0c; omega), (by omega), (Nat.le_refl _), rfl⟩, I.pick [0, 1]⟩) ?_
 rintro J0 gk0 _ _ _ ⟨U900, e, f, k, p0, c0, p5, c5, rfl, rfl, rfl, hr, hf, hkK, hgk⟩ hJ0 Al W I
 rcases bTF (decide ((k : Int) > 0)) with f8 | f8
 · refine zb I 8 (decide ((k : Int) > 0)) (true) (f8) fun Al W I => zbin I 12 _ (fun _ _ _ _ _ => h0v .i64 (k : Int) (1) (((k % 2 : Nat) : Int)) ((by rw [p1w]; omega))) fun Al W I => ?_
   rcases bTF (((k % 2 : Nat) : Int) == 1) with f13 | f13
   · refine zb I 13 (((k % 2 : Nat) : Int) == 1) (true) (f13) fun Al W I => zg I (fun Al W I => have hzW := I.bel.size; (HM W p5 p0 c5 c0 e f (by have := hr.bd (by have := oTr f8; omega); omega) hf I.fa.1.rd I.fa.2.1.rd).out) fun Al V Iv _ hB _ kz => ?_
     rintro _ W ⟨p16, c16, rfl, o16, hb⟩
     refine ⟨_, rfl, kz _ _ hb fun I => ?_⟩
     have I := I.ownB base o16
     rcases bTF (decide ((k : Int) > 1)) with f18 | f18
     · refine zb I 18 (decide ((k : Int) > 1)) (true) (f18) fun Al W I => zg I (fun Al W I => (HM W p0 p0 c0 c0 f f hf hf I.fa.2.2.1.rd I.fa.2.2.1.rd).out) fun Al V Iv _ hB _ kz => ?_
       rintro _ W ⟨p21, c21, rfl, o21, hb⟩
       refine ⟨_, rfl, kz _ _ hb fun I => ?_⟩
       have I := I.ownB base o21
       refine zbin I 10 _ (fun _ _ _ _ _ => l0u .i64 (k : Int) .u64 (1) (((k / 2 : Nat) : Int)) (by omega) ((by show (k : Int).fdiv 2 = _; rw [Int.fdiv_eq_ediv_of_nonneg _ (by omega)]; omega))) fun Al W I => a0i I J0 fun Al W U I => hJ0 (k / 2) _ _ _ _ _ ((by have := oTr f8; omega)) ⟨U, e + f, f + f, k / 2, p21, c21, p16, c16, rfl, rfl, rfl, (by have h := hr.step; rw [show k % 2 = 1 by have := beq_iff_eq.1 f13; omega, Nat.mul_one] at h; exact h), (by have := hr.two (by have := oTr f18; omega); omega), (by omega), rfl⟩ (I.pick [1, 0])
     refine zb I 18 (decide ((k : Int) > 1)) (false) (f18) fun Al W I => zbin I 10 _ (fun _ _ _ _ _ => l0u .i64 (k : Int) .u64 (1) (((k / 2 : Nat) : Int)) (by omega) ((by show (k : Int).fdiv 2 = _; rw [Int.fdiv_eq_ediv_of_nonneg _ (by omega)]; omega))) fun Al W I => a0i I J0 fun Al W U I => hJ0 (k / 2) _ _ _ _ _ ((by have := oTr f8; omega)) ⟨U, e + f, f, k / 2, p0, c0, p16, c16, rfl, rfl, rfl, (by have h := oFa f18; have h1 := oTr f8; rw [show k / 2 = 0 by omega]; unfold l0c at hr ⊢; rw [show k = 1 by omega] at hr; omega), hf, (by omega), rfl⟩ (I.pick [0, 2])
   refine zb I 13 (((k % 2 : Nat) : Int) == 1) (false) (f13) fun Al W I => ?_
   rcases bTF (decide ((k : Int) > 1)) with f18 | f18
   · refine zb I 18 (decide ((k : Int) > 1)) (true) (f18) fun Al W I => zg I (fun Al W I => (HM W p0 p0 c0 c0 f f hf hf I.fa.2.1.rd I.fa.2.1.rd).out) fun Al V Iv _ hB _ kz => ?_
     rintro _ W ⟨p21, c21, rfl, o21, hb⟩
     refine ⟨_, rfl, kz _ _ hb fun I => ?_⟩
     have I := I.ownB base o21
     refine zbin I 10 _ (fun _ _ _ _ _ => l0u .i64 (k : Int) .u64 (1) (((k / 2 : Nat) : Int)) (by omega) ((by show (k : Int).fdiv 2 = _; rw [Int.fdiv_eq_ediv_of_nonneg _ (by omega)]; omega))) fun Al W I => a0i I J0 fun Al W U I => hJ0 (k / 2) _ _ _ _ _ ((by have := oTr f8; omega)) ⟨U, e, f + f, k / 2, p21, c21, p5, c5, rfl, rfl, rfl, (by have h := hr.step; rw [show k % 2 = 0 by have := bnF f13; omega, Nat.mul_zero, Nat.add_zero] at h; exact h), (by have := hr.two (by have := oTr f18; omega); omega), (by omega), rfl⟩ (I.pick [1, 0])
   refine zb I 18 (decide ((k : Int) > 1)) (false) (f18) fun Al W I => zbin I 10 _ (fun _ _ _ _ _ => l0u .i64 (k : Int) .u64 (1) (((k / 2 : Nat) : Int)) (by omega) ((by show (k : Int).fdiv 2 = _; rw [Int.fdiv_eq_ediv_of_nonneg _ (by omega)]; omega))) fun Al W I => a0i I J0 fun Al W U I => hJ0 (k / 2) _ _ _ _ _ ((by have := oTr f8; omega)) ⟨U, e, f, k / 2, p0, c0, p5, c5, rfl, rfl, rfl, (by have h := oFa f18; have h1 := oTr f8; have h2 := bnF f13; exfalso; omega), hf, (by omega), rfl⟩ (I.pick [0, 1])
 refine zb I 8 (decide ((k : Int) > 0)) (false) (f8) fun Al W I => ?_
 have he : e = K := by have h := oFa f8; unfold l0c at hr; rw [show k = 0 by omega] at hr; omega
 refine zret I (v := fun Al => .slice p5 (dig B32 (a ^ e)).length c5) fun Al W I => ?_
 subst he; exact ⟨p5, c5, rfl, I.fa.1, I.below⟩
theorem n1p : Tryz.prog.underlying 44 = some (.slice 5) := by kernel_rfl
theorem t1h : Tryz.prog.underlying 5 = some (.int .u8) := by kernel_rfl
theorem g1k : Tryz.prog.underlying 9 = some .string := by kernel_rfl
theorem g1l (s : ByteArray) (w : World) (hs : s.size ≤ 100000000) (hd : n1c s) :
 Calls Tryz.prog 43 #[.string s] w (f0w w .u32 139 (dig B32 (a0n (a0a s)))) := by
 have HD := lHd hd
 have HT := lHd (b0e s)
 clear hd
 go_enter Tryz.func43, Tryz.ntmps43
 go_wp2
 go_loopg [0, 3] s.size (fun g sv av wr => ∃ (k : Nat) (t : OA) (e : Nat) (a : Nat) (r : ByteArray), sv = .string r ∧ av = .slice t (dig B32 a).length e ∧ g + k = s.size ∧ r.size + k = s.size ∧ Hid (a0a r = (a0a s).drop k) ∧ Hid (a = a0n ((a0a s).take k)) ∧
     Own wr w.heap.size .u32 139 t e (dig B32 a) ∧ Below w.heap.size w wr)
 case atStart => exact ⟨0, none, 0, 0, s, rfl, by rw [a0e]; rfl, by omega, by omega, rfl, (show 0 = a0n (List.take 0 _) by simp [a0n]), by rw [a0e]; exact Own.nil _ _ _ _, Below.refl _ _⟩
 case round =>
  obtain ⟨k, t, e, a, r, rfl, rfl, hg, hk, HB, HA, hoq, hb⟩ := hrel
  have hal : (dig B32 a).length ≤ k := by
   rw [HA.out, a0g a0b]
   have h1 := g0y ((a0a s).take k) (fun j hj => by rw [List.length_take, HT.out] at hj; rw [f0k (by omega)]; exact (HD.out j (by omega)).2)
   rw [List.length_take, HT.out, Nat.min_eq_left (by omega)] at h1
   exact Nat.lt_of_lt_of_le h1 (Nat.pow_le_pow_left (by unfold B32; omega) k)
  by_cases hr0 : 0 < r.size
  · by_cases h9 : 9 ≤ r.size
    · have hcl : (r.extract 0 9).size = 9 := by rw [ByteArray.size_extract]; omega
      have hcb := lHd (show a0a (r.extract 0 9) = ((a0a s).drop k).take 9 by rw [d0f, List.drop_zero, HB.out])
      have hrb := lHd (show a0a (r.extract 9 r.size) = (a0a s).drop (k + 9) by rw [d0f, ← b0e r, List.take_length, HB.out, List.drop_drop])
      have hrs : (r.extract 9 r.size).size + 9 = r.size := by rw [ByteArray.size_extract]; omega
      have HN := lHd (show a0n ((a0a s).take (k + 9)) = a * 10 ^ 9 + a0n (((a0a s).drop k).take 9) by rw [HA.out]; exact o0a _ _ _ (by rw [HT.out]; omega))
      have HC := lHd (show ∀ j, j < 9 → 48 ≤ dg (((a0a s).drop k).take 9) j ∧ dg (((a0a s).drop k).take 9) j ≤ 57 from fun j hj => by
        rw [f0k hj, f0l]; exact HD.out (k + j) (by omega))
      have HCL := lHd (show (((a0a s).drop k).take 9).length = 9 by rw [List.length_take, List.length_drop, HT.out]; omega)
      generalize hch : ((a0a s).drop k).take 9 = ch at *
      obtain ⟨r2, hrn⟩ : ∃ r2, r2 = r.extract 9 r.size := ⟨_, rfl⟩
      rw [← hrn] at hrb hrs
      have HRE := lHd hrn
      have hrl := Nat.le_of_eq hrs
      have hrl2 := Nat.le_of_eq hrs.symm
      clear hch hrn hrs
      have hmn : min (9 : Int) (r.size : Int) = 9 := by omega
      have hmk : min 9 r.size = 9 := by omega
      go_wp2_with (refine t0x rfl _ _ _ (by rfl) g1k n1p t1h _ (by rfl) ?_; intro p2 c2 w2 hr2 hb2)
      try simp only [hmn, Int.toNat_natCast, Int.toNat_ofNat, hmk] at hr2
      try simp only [hmn, Int.toNat_natCast, Int.toNat_ofNat, hmk]
      clear hmn hmk
      try rw [hcl]
      first | rw [hcb.out] at hr2 | (have hcb2 := hcb.out; rw [show r.extract 0 r.size = r by simp] at hcb2; rw [hcb2] at hr2)
      have hs2 := hr2.solid
      rw [HCL.out] at hs2
      go_loop [5, 6, 22] (fun dv tv iv => ∃ (i d t : Nat), iv = .int .i64 i ∧ dv = .int .u64 d ∧ tv = .int .u64 t ∧ i ≤ 9 ∧ d < 1000000000 ∧ t ≤ 1000000000 ∧ Hid (d = a0n (ch.take i)) ∧ Hid (t = 10 ^ i)) (fun _ _ iv => 9 - (intOf iv).toNat)
      case atStart => exact ⟨0, 0, 1, rfl, rfl, rfl, Nat.zero_le _, by omega, by omega, (show 0 = a0n (List.take 0 _) by simp [a0n]), (show 1 = 10 ^ 0 from rfl)⟩
      case round =>
       obtain ⟨i, d, ten, rfl, rfl, rfl, hi, hd9, ht9, HD2, HT2⟩ := hrel
       by_cases hin : i < 9
       · have hc1 := hr2.cells i (by rw [HCL.out]; exact hin)
         obtain ⟨hv1, hv2⟩ := HC.out i hin
         obtain ⟨v, hv⟩ : ∃ v, dg ch i = v + 48 := ⟨dg ch i - 48, by omega⟩
         have HN2 : Hid (10 * d + v = a0n (ch.take (i + 1))) := by
          show _ = _
          rw [f0q _ _ (by rw [HCL.out]; exact hin), ← HD2.out, hv]; omega
         have HT3 : Hid (10 * ten = 10 ^ (i + 1)) := by show _ = _; rw [HT2.out, Nat.pow_succ]; omega
         have hdb : 10 * d + v < 1000000000 := by
          rw [HN2.out]
          have h1 := g0y (ch.take (i + 1)) (fun j hj => by rw [List.length_take, HCL.out] at hj; rw [f0k (by omega)]; exact (HC.out j (by omega)).2)
          rw [List.length_take, HCL.out, Nat.min_eq_left (by omega)] at h1
          exact Nat.lt_of_lt_of_le h1 (Nat.pow_le_pow_right (by omega) (show i + 1 ≤ 9 by omega))
         have htb : 10 * ten ≤ 1000000000 := by
          rw [HT3.out]; exact Nat.pow_le_pow_right (show 0 < 10 by omega) (show i + 1 ≤ 9 by omega)
         rw [hv] at hc1
         have hv9 : v ≤ 9 := by omega
         clear hv hv1 hv2
         go_wp2
         go_round
         case rel => exact ⟨i + 1, 10 * d + v, 10 * ten, by go_num, by go_num, by go_num, hin, hdb, htb, HN2, HT3⟩
         case measure => simp [intOf]; omega
       · obtain rfl : i = 9 := by omega
         have HD3 := lHd (show d = a0n ch by rw [HD2.out, List.take_of_length_le (by rw [HCL.out]; exact Nat.le_refl _)])
         have htp : 1 ≤ ten := by rw [HT2.out]; exact Nat.pow_pos (by omega)
         have HE := lHd (show a0n ((a0a s).take (k + 9)) = a * ten + d by rw [HN.out, ← HT2.out, ← HD3.out])
         have H0 := lHd (l0v.start (c0c a0b a) ten d)
         go_wp2
         go_loopw [5, 40] (fun dv iv w3 => ∃ (i d2 : Nat) (L : List Nat), iv = .int .i64 i ∧ dv = .int .u64 d2 ∧ d2 < 4294967296 ∧ i ≤ (dig B32 a).length ∧ Hid (L.length = (dig B32 a).length) ∧ Own w3 w.heap.size .u32 139 t e L ∧ Below w.heap.size w w3 ∧ Hid (l0v L (dig B32 a) ten d i d2))
          (fun _ iv _ => (dig B32 a).length - (intOf iv).toNat)
         case atStart => exact ⟨0, d, _, rfl, rfl, by omega, Nat.zero_le _, rfl, hoq.past hb2, hb.trans (hb2.mono hb.size), H0⟩
         case round =>
          obtain ⟨i, d2, L, rfl, rfl, hd2, hi2, hL, hoL, hb3, HR⟩ := hrel
          have hsL := hoL.solid
          rw [hL.out] at hsL
          by_cases hin2 : i < (dig B32 a).length
          · have hc1 := hoL.rd.cells i (by rw [hL.out]; exact hin2)
            rw [HR.out.2.2.1 i (Nat.le_refl _)] at hc1
            have hxd := a0r (B := 4294967296) (by omega) _ (c0c a0b a) i
            generalize hx : dg (dig B32 a) i = x at *
            have hpm := Nat.mul_le_mul (show x ≤ 4294967295 by omega) ht9
            obtain ⟨u, hu⟩ : ∃ u, u = x * ten + d2 := ⟨_, rfl⟩
            have hub : u < 18446744073709551616 := by omega
            have hub2 : u / 4294967296 < 4294967296 := by omega
            have HS := lHd (HR.out.step hin2 u (by rw [hx]; exact hu))
            have eu : (x : Int) * (ten : Int) + (d2 : Int) = (u : Nat) := by rw [hu]; simp
            have em : (x : Int) * (ten : Int) < 18446744073709551616 := by
             have : ((x * ten : Nat) : Int) = (x : Int) * (ten : Int) := by simp
             rw [← this]; omega
            have em0 : 0 ≤ (x : Int) * (ten : Int) := by
             have : ((x * ten : Nat) : Int) = (x : Int) * (ten : Int) := by simp
             rw [← this]; omega
            clear hu hx hpm
            go_wp2_with (refine b0a rfl _ _ _ rfl 139 b0y _ _ _ _ hoL i (by rw [hL.out]; exact hin2) _ ?_ rfl rfl ?_; omega; intro w5 ho5 hg5 hb5)
            have e6 : ((u : Int) % 4294967296).toNat = u % B32 := by unfold B32; omega
            rw [e6] at ho5
            go_roundw
            case rel => exact ⟨i + 1, u / B32, _, by go_num, (by unfold B32; go_num), (by unfold B32; exact hub2), hin2, (by show (List.set _ _ _).length = _; rw [List.length_set]; exact hL.out), ho5, hb3.trans hb5, HS⟩
            case measure => simp [intOf]; omega
          · obtain rfl : i = (dig B32 a).length := by omega
            by_cases hd0 : 0 < d2
            · have HF := lHd (HR.out.done1 hd0 (by unfold B32; exact hd2))
              go_wp2_with (first
                | (refine c0l rfl _ _ rfl b0y _ ?_ rfl ?_; omega; intro p6 w6 ho6 hb6 hz6 hp6)
                | (at_builtin; refine c0k rfl _ _ _ rfl b0y _ _ _ _ _ (hoL.past hb6) hL.out.symm _ _ _ _ ho6.rd rfl rfl rfl ?_ ?_ ?_; (rw [hL.out]; simp; omega); (have := hb6.size; have := hb3.size; omega); intro p7 c7 w7 ho7 hg7 hb7 hn7))
              rw [Int.toNat_natCast] at ho7
              have hb8 := hb3.trans ((hb6.mono hb3.size).trans hb7)
              have hln := lHd (show (L ++ [((d2 : Int)).toNat]).length = (dig B32 (a * ten + d)).length by rw [← HF.out]; simp)
              rw [HF.out] at ho7
              go_roundg (s.size - (k + 9))
              case measure => omega
              case rel => exact ⟨k + 9, p7, c7, a * ten + d, r2, (by rw [HRE.out]; try simp), (by rw [← HF.out]; simp), by omega, by omega, hrb, (show _ = _ from HE.out.symm), ho7, hb8⟩
            · obtain rfl : d2 = 0 := by omega
              have HF := lHd (HR.out.done0 htp)
              have hF2 := hL.out
              rw [HF.out] at hoL
              go_wp2
              go_roundg (s.size - (k + 9))
              case measure => omega
              case rel => exact ⟨k + 9, t, e, a * ten + d, r2, (by rw [HRE.out]; try simp), (by rw [← HF.out, hL.out]), by omega, by omega, hrb, (show _ = _ from HE.out.symm), hoL, hb3⟩
    · have h9' : r.size ≤ 8 := by omega
      clear h9
      have hcl : (r.extract 0 r.size).size = r.size := by rw [ByteArray.size_extract]; omega
      have hcb := lHd (show a0a (r.extract 0 r.size) = ((a0a s).drop k).take r.size by rw [d0f, List.drop_zero, HB.out])
      have hrb := lHd (show a0a (r.extract r.size r.size) = (a0a s).drop (k + r.size) by rw [d0f, ← b0e r, List.take_length, HB.out, List.drop_drop])
      have hrs : (r.extract r.size r.size).size + r.size = r.size := by rw [ByteArray.size_extract]; omega
      have HN := lHd (show a0n ((a0a s).take (k + r.size)) = a * 10 ^ r.size + a0n (((a0a s).drop k).take r.size) by rw [HA.out]; exact o0a _ _ _ (by rw [HT.out]; omega))
      have HC := lHd (show ∀ j, j < r.size → 48 ≤ dg (((a0a s).drop k).take r.size) j ∧ dg (((a0a s).drop k).take r.size) j ≤ 57 from fun j hj => by
        rw [f0k hj, f0l]; exact HD.out (k + j) (by omega))
      have HCL := lHd (show (((a0a s).drop k).take r.size).length = r.size by rw [List.length_take, List.length_drop, HT.out]; omega)
      generalize hch : ((a0a s).drop k).take r.size = ch at *
      obtain ⟨r2, hrn⟩ : ∃ r2, r2 = r.extract r.size r.size := ⟨_, rfl⟩
      rw [← hrn] at hrb hrs
      have HRE := lHd hrn
      have hrl := Nat.le_of_eq hrs
      have hrl2 := Nat.le_of_eq hrs.symm
      clear hch hrn hrs
      have hmn : min (9 : Int) (r.size : Int) = (r.size : Int) := by omega
      have hmk : min r.size r.size = r.size := by omega
      go_wp2_with (refine t0x rfl _ _ _ (by rfl) g1k n1p t1h _ (by rfl) ?_; intro p2 c2 w2 hr2 hb2)
      try simp only [hmn, Int.toNat_natCast, Int.toNat_ofNat, hmk] at hr2
      try simp only [hmn, Int.toNat_natCast, Int.toNat_ofNat, hmk]
      clear hmn hmk
      try rw [hcl]
      first | rw [hcb.out] at hr2 | (have hcb2 := hcb.out; rw [show r.extract 0 r.size = r by simp] at hcb2; rw [hcb2] at hr2)
      have hs2 := hr2.solid
      rw [HCL.out] at hs2
      go_loop [5, 6, 22] (fun dv tv iv => ∃ (i d t : Nat), iv = .int .i64 i ∧ dv = .int .u64 d ∧ tv = .int .u64 t ∧ i ≤ r.size ∧ d < 1000000000 ∧ t ≤ 1000000000 ∧ Hid (d = a0n (ch.take i)) ∧ Hid (t = 10 ^ i)) (fun _ _ iv => r.size - (intOf iv).toNat)
      case atStart => exact ⟨0, 0, 1, rfl, rfl, rfl, Nat.zero_le _, by omega, by omega, (show 0 = a0n (List.take 0 _) by simp [a0n]), (show 1 = 10 ^ 0 from rfl)⟩
      case round =>
       obtain ⟨i, d, ten, rfl, rfl, rfl, hi, hd9, ht9, HD2, HT2⟩ := hrel
       by_cases hin : i < r.size
       · have hc1 := hr2.cells i (by rw [HCL.out]; exact hin)
         obtain ⟨hv1, hv2⟩ := HC.out i hin
         obtain ⟨v, hv⟩ : ∃ v, dg ch i = v + 48 := ⟨dg ch i - 48, by omega⟩
         have HN2 : Hid (10 * d + v = a0n (ch.take (i + 1))) := by
          show _ = _
          rw [f0q _ _ (by rw [HCL.out]; exact hin), ← HD2.out, hv]; omega
         have HT3 : Hid (10 * ten = 10 ^ (i + 1)) := by show _ = _; rw [HT2.out, Nat.pow_succ]; omega
         have hdb : 10 * d + v < 1000000000 := by
          rw [HN2.out]
          have h1 := g0y (ch.take (i + 1)) (fun j hj => by rw [List.length_take, HCL.out] at hj; rw [f0k (by omega)]; exact (HC.out j (by omega)).2)
          rw [List.length_take, HCL.out, Nat.min_eq_left (by omega)] at h1
          exact Nat.lt_of_lt_of_le h1 (Nat.pow_le_pow_right (by omega) (show i + 1 ≤ 9 by omega))
         have htb : 10 * ten ≤ 1000000000 := by
          rw [HT3.out]; exact Nat.pow_le_pow_right (show 0 < 10 by omega) (show i + 1 ≤ 9 by omega)
         rw [hv] at hc1
         have hv9 : v ≤ 9 := by omega
         clear hv hv1 hv2
         go_wp2
         go_round
         case rel => exact ⟨i + 1, 10 * d + v, 10 * ten, by go_num, by go_num, by go_num, hin, hdb, htb, HN2, HT3⟩
         case measure => simp [intOf]; omega
       · obtain rfl : i = r.size := by omega
         have HD3 := lHd (show d = a0n ch by rw [HD2.out, List.take_of_length_le (by rw [HCL.out]; exact Nat.le_refl _)])
         have htp : 1 ≤ ten := by rw [HT2.out]; exact Nat.pow_pos (by omega)
         have HE := lHd (show a0n ((a0a s).take (k + r.size)) = a * ten + d by rw [HN.out, ← HT2.out, ← HD3.out])
         have H0 := lHd (l0v.start (c0c a0b a) ten d)
         go_wp2
         go_loopw [5, 40] (fun dv iv w3 => ∃ (i d2 : Nat) (L : List Nat), iv = .int .i64 i ∧ dv = .int .u64 d2 ∧ d2 < 4294967296 ∧ i ≤ (dig B32 a).length ∧ Hid (L.length = (dig B32 a).length) ∧ Own w3 w.heap.size .u32 139 t e L ∧ Below w.heap.size w w3 ∧ Hid (l0v L (dig B32 a) ten d i d2))
          (fun _ iv _ => (dig B32 a).length - (intOf iv).toNat)
         case atStart => exact ⟨0, d, _, rfl, rfl, by omega, Nat.zero_le _, rfl, hoq.past hb2, hb.trans (hb2.mono hb.size), H0⟩
         case round =>
          obtain ⟨i, d2, L, rfl, rfl, hd2, hi2, hL, hoL, hb3, HR⟩ := hrel
          have hsL := hoL.solid
          rw [hL.out] at hsL
          by_cases hin2 : i < (dig B32 a).length
          · have hc1 := hoL.rd.cells i (by rw [hL.out]; exact hin2)
            rw [HR.out.2.2.1 i (Nat.le_refl _)] at hc1
            have hxd := a0r (B := 4294967296) (by omega) _ (c0c a0b a) i
            generalize hx : dg (dig B32 a) i = x at *
            have hpm := Nat.mul_le_mul (show x ≤ 4294967295 by omega) ht9
            obtain ⟨u, hu⟩ : ∃ u, u = x * ten + d2 := ⟨_, rfl⟩
            have hub : u < 18446744073709551616 := by omega
            have hub2 : u / 4294967296 < 4294967296 := by omega
            have HS := lHd (HR.out.step hin2 u (by rw [hx]; exact hu))
            have eu : (x : Int) * (ten : Int) + (d2 : Int) = (u : Nat) := by rw [hu]; simp
            have em : (x : Int) * (ten : Int) < 18446744073709551616 := by
             have : ((x * ten : Nat) : Int) = (x : Int) * (ten : Int) := by simp
             rw [← this]; omega
            have em0 : 0 ≤ (x : Int) * (ten : Int) := by
             have : ((x * ten : Nat) : Int) = (x : Int) * (ten : Int) := by simp
             rw [← this]; omega
            clear hu hx hpm
            go_wp2_with (refine b0a rfl _ _ _ rfl 139 b0y _ _ _ _ hoL i (by rw [hL.out]; exact hin2) _ ?_ rfl rfl ?_; omega; intro w5 ho5 hg5 hb5)
            have e6 : ((u : Int) % 4294967296).toNat = u % B32 := by unfold B32; omega
            rw [e6] at ho5
            go_roundw
            case rel => exact ⟨i + 1, u / B32, _, by go_num, (by unfold B32; go_num), (by unfold B32; exact hub2), hin2, (by show (List.set _ _ _).length = _; rw [List.length_set]; exact hL.out), ho5, hb3.trans hb5, HS⟩
            case measure => simp [intOf]; omega
          · obtain rfl : i = (dig B32 a).length := by omega
            by_cases hd0 : 0 < d2
            · have HF := lHd (HR.out.done1 hd0 (by unfold B32; exact hd2))
              go_wp2_with (first
                | (refine c0l rfl _ _ rfl b0y _ ?_ rfl ?_; omega; intro p6 w6 ho6 hb6 hz6 hp6)
                | (at_builtin; refine c0k rfl _ _ _ rfl b0y _ _ _ _ _ (hoL.past hb6) hL.out.symm _ _ _ _ ho6.rd rfl rfl rfl ?_ ?_ ?_; (rw [hL.out]; simp; omega); (have := hb6.size; have := hb3.size; omega); intro p7 c7 w7 ho7 hg7 hb7 hn7))
              rw [Int.toNat_natCast] at ho7
              have hb8 := hb3.trans ((hb6.mono hb3.size).trans hb7)
              have hln := lHd (show (L ++ [((d2 : Int)).toNat]).length = (dig B32 (a * ten + d)).length by rw [← HF.out]; simp)
              rw [HF.out] at ho7
              go_roundg (s.size - (k + r.size))
              case measure => omega
              case rel => exact ⟨k + r.size, p7, c7, a * ten + d, r2, (by rw [HRE.out]; try simp), (by rw [← HF.out]; simp), by omega, by omega, hrb, (show _ = _ from HE.out.symm), ho7, hb8⟩
            · obtain rfl : d2 = 0 := by omega
              have HF := lHd (HR.out.done0 htp)
              have hF2 := hL.out
              rw [HF.out] at hoL
              go_wp2
              go_roundg (s.size - (k + r.size))
              case measure => omega
              case rel => exact ⟨k + r.size, t, e, a * ten + d, r2, (by rw [HRE.out]; try simp), (by rw [← HF.out, hL.out]), by omega, by omega, hrb, (show _ = _ from HE.out.symm), hoL, hb3⟩
  · have hk1 : k = s.size := by omega
    have HE := lHd (show a = a0n (a0a s) by rw [HA.out, List.take_of_length_le (by rw [HT.out]; omega)])
    clear hk1
    go_wp2
    go_ret
    rw [← HE.out]
    exact ⟨t, e, rfl, hoq, hb⟩
theorem x0n (base : Nat) (p : OA) (n c : Nat) (xs : List Nat) (w : World) (ho : Own w base .u8 5 p c xs) (hn : n = xs.length) (hl : xs.length ≤ 4000000000) (h0 : 0 < xs.length) :
 Calls Tryz.prog 99 #[.slice p n c] w fun e w' => e = .returned (.tuple #[]) ∧ Own w' base .u8 5 p c xs.reverse ∧ Below base w w' := by
 subst hn
 have HR0 := lHd (h0q.start xs h0)
 have hsx := ho.solid
 have hbk := ho.blk_lt (hsx h0).1
 go_enter Tryz.func99, Tryz.ntmps99
 go_wp2
 go_loopw [2, 3] (fun iv jv wr => ∃ (i j : Nat) (L : List Nat), iv = .int .i64 i ∧ jv = .int .i64 j ∧ i ≤ xs.length ∧ j < xs.length ∧ Own wr base .u8 5 p c L ∧ Below base w wr ∧ Hid (h0q L xs i j))
  (fun iv _ _ => xs.length - (intOf iv).toNat)
 case atStart => exact ⟨0, xs.length - 1, xs, rfl, by go_num, Nat.zero_le _, by omega, ho, Below.refl _ _, HR0⟩
 case round =>
  obtain ⟨i, j, L, rfl, rfl, hi, hj, hoL, hbL, HR⟩ := hrel
  by_cases hij : i < j
  · have hLl := lHd HR.out.1
    have ci := hoL.rd.cells i (by rw [hLl.out]; omega)
    have cj := hoL.rd.cells j (by rw [hLl.out]; omega)
    have fi := f0g hoL i (by rw [hLl.out]; omega)
    have s1 := g0g hoL i (by rw [hLl.out]; omega) (dg L j)
    have fj := f0g s1.1 j (by rw [List.length_set, hLl.out]; omega)
    have cj2 := s1.1.rd.cells j (by rw [List.length_set, hLl.out]; omega)
    rw [b0p (by omega)] at cj2
    have s2 := g0g s1.1 j (by rw [List.length_set, hLl.out]; omega) (dg L i)
    have HS := lHd (HR.out.step hij)
    have i1 : (i : Int) < (xs.length : Int) := by omega
    have j1 : (j : Int) < (xs.length : Int) := by omega
    have i0 : (0 : Int) ≤ (i : Int) := by omega
    have j0 : (0 : Int) ≤ (j : Int) := by omega
    have hb3 : Below base w ((wr.setCell (at_ p i) (.int .u8 (dg L j : Nat))).setCell (at_ p j) (.int .u8 (dg L i : Nat))) :=
     (hbL.setCell (by exact s1.2.2) _).setCell (by exact s1.2.2) _
    have S2 := lHd s2
    have HB := lHd hb3
    clear s1 s2 hb3
    go_wp2_with fail
    go_region
    have ho3 := S2.out.1.drew
    have hb3 := HB.out.drew
    clear ci cj fi fj cj2 S2 HB
    generalize ((wr.setCell (at_ p i) (.int .u8 (dg L j : Nat))).setCell (at_ p j) (.int .u8 (dg L i : Nat))).drew = w3 at ho3 hb3 ⊢
    go_wp2
    go_roundw
    case rel => exact ⟨i + 1, j - 1, _, by go_num, by go_num, by omega, by omega, ho3, hb3, HS⟩
    case measure => first | (simp [intOf]; done) | (simp [intOf]; omega)
  · have HD := lHd (HR.out.done hij)
    go_wp2
    go_end0
    exact ⟨rfl, HD.out ▸ hoL, hbL⟩
theorem b1w : Tryz.prog.underlying 44 = some (.slice 5) := by kernel_rfl
theorem g1m : Tryz.prog.underlying 5 = some (.int .u8) := by kernel_rfl
theorem x0o : Tryz.prog.underlying 9 = some .string := by kernel_rfl
theorem x0p (p : OA) (n c : Nat) (N : Nat) (w : World) (hp : Rd w .u32 p (dig B32 N)) (hn : n = (dig B32 N).length) (hl : (dig B32 N).length ≤ 100000000) :
 Calls Tryz.prog 65 #[.slice p n c] w fun e w' => e = .returned (.string (a0d (a0z N))) ∧ Below w.heap.size w w' := by
 subst hn
 go_enter Tryz.func65, Tryz.ntmps65
 go_wp2
 go_loopg [0, 3] N (fun a av ov wr => ∃ (p q : OA) (c d : Nat) (D : List Nat), av = .slice p (dig B32 a).length c ∧ ov = .slice q D.length d ∧ (dig B32 a).length ≤ (dig B32 N).length ∧ Rd wr .u32 p (dig B32 a) ∧
     Own wr w.heap.size .u8 5 q d (D.map (· + 48)) ∧ Below w.heap.size w wr ∧ Hid (k0c N D a))
 case atStart => exact ⟨p, none, c, 0, [], rfl, rfl, Nat.le_refl _, hp, Own.nil _ _ _ _, Below.refl _ _, k0c.start N⟩
 case round =>
  obtain ⟨p, q, c, d, D, rfl, rfl, hla, hpa, hoq, hb, HR⟩ := hrel
  by_cases h0 : 0 < (dig B32 gk).length
  · have hpos : 0 < gk := by
     rcases Nat.eq_zero_or_pos gk with h | h
     · subst h; rw [a0e] at h0; simp at h0
     · exact h
    have HI := lHd (HR.out.enter hpos)
    have hdiv := Nat.div_lt_self hpos (show 1 < 1000000000 by omega)
    have hlen := a0l a0b (Nat.le_of_lt hdiv)
    have hmod := Nat.mod_lt gk (show 0 < 1000000000 by omega)
    go_wp2_with (go_at_call 113; refine (u0r p _ c gk 1000000000 _ hpa rfl (by omega) (by omega) (by omega)).mono ?_; rintro e w1 ⟨p1, c1, rfl, ho1, hb1⟩)
    have hoq1 := hoq.past hb1
    have hb2 := hb.trans (hb1.mono hb.size)
    have hr1 := ho1.rd
    have hap : n0e q p1 (dig B32 (gk / 1000000000)) := fun h1 h2 => by
     have e1 := (hoq.blk_lt h2).2
     have e2 := (ho1.blk_lt (hr1.solid h1).1).1
     omega
    clear hoq hb hpa hb1 hpos h0 ho1
    generalize gk / 1000000000 = a1 at *
    obtain ⟨wo, rfl⟩ : ∃ wo : World, wo = wr := ⟨_, rfl⟩
    clear HR
    have hlenN : (dig B32 a1).length ≤ (dig B32 N).length := by omega
    clear hlen hla
    go_loopg [3, 4, 5] 9 (fun g ov rv iv wr => ∃ (i r : Nat) (q : OA) (d : Nat) (D : List Nat), iv = .int .i64 i ∧ rv = .int .u32 r ∧ ov = .slice q D.length d ∧ g + i = 9 ∧ r < 4294967296 ∧ Rd wr .u32 p1 (dig B32 a1) ∧ n0e q p1 (dig B32 a1) ∧
      Own wr w.heap.size .u8 5 q d (D.map (· + 48)) ∧ Below w.heap.size w wr ∧ Hid (q0z N D i r a1))
    case atStart => exact ⟨0, gk % 1000000000, q, d, D, rfl, rfl, rfl, rfl, by omega, hr1, hap, hoq1, hb2, HI⟩
    case round =>
     obtain ⟨i, r, q, d, D, rfl, rfl, rfl, hgi, hr, hp1, hap, hoq, hb, HI⟩ := hrel
     have ha : 0 < (dig B32 a1).length ↔ 0 < a1 := by have := a0h a0b a1; omega
     by_cases hi9 : i < 9
     · by_cases hc : 0 < r ∨ 0 < a1
       · have HS := lHd (HI.out.step hi9 hc)
         have hsz := HI.out.size hc
         have HP := lHd hap
         clear hap
         by_cases hr0 : 0 < r
         · clear hc ha
           go_wp2_with (first
             | (refine c0l rfl _ _ rfl r0d _ ?_ rfl ?_; omega; intro p2 w2 ho2 hb2 hz2 hp2)
             | (at_builtin; refine c0k rfl _ _ _ rfl r0d _ _ _ _ _ (hoq.past hb2) (by simp) _ _ _ _ ho2.rd rfl rfl rfl ?_ ?_ ?_; (simp; omega); (have := hb2.size; have := hb.size; omega); intro p3 c3 w3 ho3 hg3 hb3 hn3))
           have hb4 := hb.trans ((hb2.mono hb.size).trans hb3)
           have e4 : D.map (· + 48) ++ [((48 : Int) + (r : Int) % 10).toNat] = (D ++ [r % 10]).map (· + 48) := by
            rw [List.map_append, show ((48 : Int) + (r : Int) % 10).toNat = r % 10 + 48 by omega]; rfl
           rw [e4] at ho3
           have hp3 := (hp1.past hb2).appended hg3 HP.out
           have hap3 := HP.out.next (hp1.past hb2) hn3.2
           go_roundg (gk - 1)
           case measure => omega
           case rel => exact ⟨i + 1, r / 10, p3, c3, D ++ [r % 10], by go_num, by go_num, by simp, by omega, by omega, hp3, hap3, ho3, hb4, HS⟩
         · obtain rfl : r = 0 := by omega
           have ha1 : 0 < (dig B32 a1).length := ha.2 (by omega)
           clear hc ha hr0
           go_wp2_with (first
             | (refine c0l rfl _ _ rfl r0d _ ?_ rfl ?_; omega; intro p2 w2 ho2 hb2 hz2 hp2)
             | (at_builtin; refine c0k rfl _ _ _ rfl r0d _ _ _ _ _ (hoq.past hb2) (by simp) _ _ _ _ ho2.rd rfl rfl rfl ?_ ?_ ?_; (simp; omega); (have := hb2.size; have := hb.size; omega); intro p3 c3 w3 ho3 hg3 hb3 hn3))
           have hb4 := hb.trans ((hb2.mono hb.size).trans hb3)
           have e4 : D.map (· + 48) ++ [(48 : Int).toNat] = (D ++ [0 % 10]).map (· + 48) := by
            rw [List.map_append]; rfl
           rw [e4] at ho3
           have hp3 := (hp1.past hb2).appended hg3 HP.out
           have hap3 := HP.out.next (hp1.past hb2) hn3.2
           go_roundg (gk - 1)
           case measure => omega
           case rel => exact ⟨i + 1, 0 / 10, p3, c3, D ++ [0 % 10], by go_num, by go_num, by simp, by omega, by omega, hp3, hap3, ho3, hb4, HS⟩
       · have HL := lHd (HI.out.leave (by omega) (fun h => hc h.2))
         obtain rfl : r = 0 := by omega
         obtain rfl : a1 = 0 := by omega
         rw [a0e] at *
         clear hc ha
         go_wp2
         go_roundg 0
         case measure => exact hdiv
         case rel => exact ⟨p1, q, c1, d, D, by rw [a0e]; rfl, rfl, by rw [a0e]; simp, by rw [a0e]; exact hp1, hoq, hb, HL⟩
     · have HL := lHd (HI.out.leave (by omega) (fun h => hi9 h.1))
       clear ha
       go_wp2
       go_roundg a1
       case measure => exact hdiv
       case rel => exact ⟨p1, q, _, d, D, rfl, rfl, hlenN, hp1, hoq, hb, HL⟩
  · obtain rfl : gk = 0 := (a0h a0b gk).1 (by omega)
    rw [a0e] at hpa
    have HD := lHd HR.out.done
    by_cases hD : D.length = 0
    · have hN : Hid (N = 0) := by
       have h1 := HD.out
       rw [List.eq_nil_of_length_eq_zero hD] at h1
       exact (p0q (by omega) N).1 h1.symm
      rw [hD]
      clear h0 hla
      rw [a0e]
      go_wp2
      go_ret
      refine ⟨?_, hb⟩
      rw [hN.out]
      rfl
    · have hN : Hid (a0z N = (D.map (· + 48)).reverse) := by
       show a0z N = _
       unfold a0z
       rw [if_neg, HD.out, List.map_reverse]
       intro e
       rw [e, a0e] at HD
       exact hD (by rw [HD.out]; rfl)
      have hDl : D.length ≤ 32 * (dig B32 N).length := by
       have := i1b N
       rwa [← HD.out] at this
      have hD1 : 0 < D.length := by omega
      have hD2 : ((D.length : Int) == 0) = false := bFn (by omega)
      clear h0 hla hD
      rw [a0e]
      go_wp2_with (first
        | (go_at_call 99; refine (x0n w.heap.size q _ d _ _ hoq (by simp) (by simp; omega) (by simp; omega)).mono ?_; rintro e w3 ⟨rfl, ho3, hb3⟩)
        | (refine o1c rfl _ _ _ (by rfl) b1w g1m x0o _ _ _ _ ho3.rd ?_ (by rfl) ?_; simp))
      go_ret
      exact ⟨by rw [hN.out]; rfl, hb.trans hb3⟩
end Go.Proofs.YtgbbhlginbmghaaGreatDoor
namespace Go.Slip
theorem k1v {n K : Nat} (h : n < 10 ^ (9 * K)) : (dig B32 n).length ≤ K := by
 rw [a0g a0b]
 refine Nat.lt_of_lt_of_le h ?_
 rw [Nat.pow_mul]
 exact Nat.pow_le_pow_left (by decide) K
theorem k1w {k K : Nat} (h : k < 13 * K) : (dig B32 (5 ^ k)).length ≤ K := by
 rw [a0g a0b]
 refine Nat.lt_of_lt_of_le (Nat.pow_lt_pow_right (show 1 < 5 by omega) h) ?_
 rw [Nat.pow_mul]
 exact Nat.pow_le_pow_left (by decide) K
structure b1x (R : Bool × Nat × Nat × Int) : Prop where
 d0 : 0 < R.2.2.1
 ln : (dig B32 R.2.1).length ≤ 1200
 ld : (dig B32 R.2.2.1).length ≤ 1200
 e : -20000 ≤ R.2.2.2 ∧ R.2.2.2 ≤ 20000
theorem g1n {q : Numl} (hd : ∀ x ∈ q.ds, isDg x = true) (hl : q.ds.length ≤ 800) (hp : -6000 ≤ q.pow ∧ q.pow ≤ 6000) : b1x (f0r q) := by
 obtain ⟨K, hK⟩ : ∃ K : Nat, K = 89 := ⟨_, rfl⟩
 obtain ⟨L, hL⟩ : ∃ L : Nat, L = 463 := ⟨_, rfl⟩
 have hS : (dig B32 (a0n q.ds)).length ≤ K := k1v (Nat.lt_of_lt_of_le (g0y _ fun j hj => by rw [a0x hj]; exact (f0f.1 (hd _ (List.getElem_mem hj))).2) (Nat.pow_le_pow_right (by omega) (by omega)))
 have hb : blen (a0n q.ds) ≤ 32 * K := Nat.le_trans (c0x _) (by omega)
 have hz : tz (a0n q.ds) ≤ 32 * K := by
  by_cases h : a0n q.ds = 0
  · rw [h, w0i]; omega
  · have := g0k (m := a0n q.ds) (by omega); omega
 have l1 : (dig B32 1).length ≤ 1 := (a0g a0b 1 1).2 (by decide)
 have l5 : ∀ k, k ≤ 6000 → (dig B32 (5 ^ k)).length ≤ L := fun k hk => k1w (by omega)
 unfold f0r
 by_cases h0 : a0n q.ds = 0
 · rw [if_pos h0]
   exact ⟨by show 0 < 1; omega, by show (dig B32 0).length ≤ _; rw [a0e]; exact Nat.zero_le _, by show (dig B32 1).length ≤ _; omega, by show (-20000 : Int) ≤ 0; omega, by show (0 : Int) ≤ 20000; omega⟩
 · rw [if_neg h0]
   have hmul := b0l a0b (a0n q.ds / 2 ^ tz (a0n q.ds)) (5 ^ q.pow.toNat)
   have hdv := a0l a0b (Nat.div_le_self (a0n q.ds) (2 ^ tz (a0n q.ds)))
   by_cases hp0 : 0 ≤ q.pow
   · rw [if_pos hp0]
     have := l5 q.pow.toNat (by omega)
     exact ⟨by show 0 < 1; omega, by show (dig B32 (_ * _)).length ≤ _; omega, by show (dig B32 1).length ≤ _; omega, by show _ ≤ (_ : Int) + _; omega, by show (_ : Int) + _ ≤ _; omega⟩
   · rw [if_neg hp0]
     have c1 := i0l (-q.pow).toNat (a0n q.ds / 2 ^ tz (a0n q.ds))
     have c2 := a0l a0b c1.1
     have := l5 (b0n (a0n q.ds / 2 ^ tz (a0n q.ds)) (-q.pow).toNat).2 (by omega)
     exact ⟨Nat.pow_pos (by omega), by show (dig B32 (b0n _ _).1).length ≤ _; omega, by show (dig B32 (5 ^ (b0n _ _).2)).length ≤ _; omega, by show _ ≤ (_ : Int) + _; omega, by show (_ : Int) + _ ≤ _; omega⟩
theorem g1o {m : Nat} (h : 0 < m) (g : Bool) (e : Int) (k : Nat) : decM (numP m e) (denP 1 e) k = numX (bare ⟨g, m, e⟩) k := by
 have hb : bare ⟨g, m, e⟩ = ⟨g, m / 2 ^ tz m, e + tz m⟩ := by unfold bare; rw [if_neg (Nat.ne_of_gt h)]
 obtain ⟨t1, t2⟩ := b0v m h
 rw [hb]
 unfold numX
 simp only
 have ho : 0 < m / 2 ^ tz m := Nat.pos_of_ne_zero fun h => by rw [h] at t2; cases t2
 refine e1l (k0v h e) (e0l (by omega) e) (k0v ho _) (e0l (by omega) _) ?_ k
 unfold numP denP
 have e1 : 2 ^ tz m * (2 ^ e.toNat * 2 ^ (-(e + tz m)).toNat) = 2 ^ (e + tz m).toNat * 2 ^ (-e).toNat := by
  rw [← Nat.pow_add, ← Nat.pow_add, ← Nat.pow_add]; congr 1; omega
 calc m * 2 ^ e.toNat * (1 * 2 ^ (-(e + tz m)).toNat) = (2 ^ tz m * (m / 2 ^ tz m)) * (2 ^ e.toNat * 2 ^ (-(e + tz m)).toNat) := by rw [t1]; grind
  _ = (m / 2 ^ tz m) * (2 ^ tz m * (2 ^ e.toNat * 2 ^ (-(e + tz m)).toNat)) := by grind
  _ = _ := by rw [e1]; grind
theorem p1x {f : Fm} {g : Bool} {d : Dc} (hc : d.c = 2) (k : Nat) : decM (numP (f.vl g d).d (wid f.g * (f.vl g d).pow)) (denP 1 (wid f.g * (f.vl g d).pow)) k = numX (f.vr g d).x k ∧ 0 < (f.vl g d).d ∧ (f.vr g d).x.m ≠ 0 := by
 have hs := y0w f g d
 have hm : d.m ≠ 0 := by
  intro h0
  unfold Dc.c at hc
  split at hc
  · omega
  · rename_i k; exact k ⟨hc, h0⟩
 have hx : (f.vr g d).x = bare ⟨g, d.m, wid f.g * d.p⟩ := by unfold Fm.vr; exact if_pos hc
 have hx0 : (f.vr g d).x.m ≠ 0 := by
  rw [hx]
  unfold bare
  rw [if_neg hm]
  have := (b0v d.m (by omega)).2
  exact fun h => by
   have h : d.m / 2 ^ tz d.m = 0 := h
   rw [h] at this; cases this
 have hd : 0 < (f.vl g d).d := by
  rcases Nat.eq_zero_or_pos (f.vl g d).d with h | h
  · rw [h] at hs
    exact absurd (by rw [← hs]; rfl) hx0
  · exact h
 exact ⟨by rw [← hs]; exact g1o hd _ _ k, hd, hx0⟩
end Go.Slip
namespace Go.Slip
open Go.RowKit
theorem k1x {neg : Bool} {m : Nat} {e : Int} {g : Gd} {way : Int} (hm : 0 < m) (G : f0c g) (h : (a0m neg m 1 e g way).exact = true) : rv neg m 1 e g way = bare ⟨neg, m, e⟩ := by
 rw [e1p hm (by omega) G]
 unfold a0m at h
 rw [if_neg (by omega)] at h
 have hr : rP m 1 (e - wid g * powK g (theK m 1 e (wid g) g.digs.toNat)) = 0 := oTr h
 generalize powK g (theK m 1 e (wid g) g.digs.toNat) = k at *
 have hd : dUp neg m 1 e (wid g) way k = qP m 1 (e - wid g * k) := by unfold dUp upP; rw [hr]; simp
 rw [hd]
 unfold rP at hr
 have hq : qP m 1 (e - wid g * k) * denP 1 (e - wid g * k) = numP m (e - wid g * k) := by
  unfold qP
  exact Nat.div_mul_cancel (Nat.dvd_of_mod_eq_zero hr)
 generalize qP m 1 (e - wid g * k) = q at *
 unfold numP denP at hq
 rw [Nat.one_mul] at hq
 rcases Int.le_total (wid g * k) e with c | c
 · obtain ⟨n, hn⟩ : ∃ n : Nat, e = wid g * k + n := ⟨(e - wid g * k).toNat, by omega⟩
   rw [show (-(e - wid g * k)).toNat = 0 by omega, show (e - wid g * k).toNat = n by omega, Nat.pow_zero, Nat.mul_one] at hq
   rw [hq, hn, d0r]
 · obtain ⟨n, hn⟩ : ∃ n : Nat, (wid g : Int) * k = e + n := ⟨(wid g * k - e).toNat, by omega⟩
   rw [show (-(e - wid g * k)).toNat = n by omega, show (e - wid g * k).toNat = 0 by omega, Nat.pow_zero, Nat.mul_one] at hq
   rw [← hq, hn, d0r]
theorem b1y {s : Bool} {m : Nat} {e : Int} {g : Gd} {way : Int} (hm : 0 < m) (G : f0c g) : ((a0m s m 1 e g way).exact && okP (a0m s m 1 e g way) g) = a0s (bare ⟨s, m, e⟩) g := by
 cases hin : a0s (bare ⟨s, m, e⟩) g
 · cases hx : (a0m s m 1 e g way).exact
   · rfl
   · cases hk : okP (a0m s m 1 e g way) g
     · rfl
     · have := s1g (show 0 < 1 by omega) G hk
       rw [k1x hm G hx, hin] at this
       cases this
 · rw [u0b (show 0 < 1 by omega) G ((s0e (way := 5) G hin).1.trans (s0e (way := 4) G hin).1.symm) way, (s0e (way := way) G hin).2]
   rfl
theorem i0p {x : Dv} {k : Nat} (h0 : x.m ≠ 0) (_ : (dig B32 x.m).length ≤ 20) (hk : 1 ≤ k) :
 (numX x k).1.length = k ∧ (∀ y ∈ (numX x k).1, 48 ≤ y ∧ y ≤ 57) ∧ 0 < a0n (numX x k).1 ∧ 3 * ((numX x k).2 - 1) < blen x.m + x.e.toNat + 1 ∧ -(((-x.e).toNat : Int) + 1) < 3 * ((numX x k).2 + 1) := by
 have hN : 0 < numP x.m x.e := k0v (by omega) x.e
 have hD : 0 < denP 1 x.e := e0l (by omega) x.e
 obtain ⟨s1, s2, s3, s4, s5, _⟩ := o0g hN hD hk (s := (numX x k).1) (p := (numX x k).2) rfl
 have hP := (l0x hN hD).bd hD
 have bN : blen (numP x.m x.e) ≤ blen x.m + x.e.toNat := by
  refine (a0w _ (blen x.m + x.e.toNat)).2 ?_
  unfold numP
  have h1 := (a0w x.m _).1 (Nat.le_refl _)
  calc x.m * 2 ^ x.e.toNat < 2 ^ blen x.m * 2 ^ x.e.toNat := Nat.mul_lt_mul_of_pos_right h1 (Nat.pow_pos (by omega))
   _ = 2 ^ (blen x.m + x.e.toNat) := (Nat.pow_add _ _ _).symm
 have bD : blen (denP 1 x.e) ≤ (-x.e).toNat + 1 := by
  refine (a0w _ ((-x.e).toNat + 1)).2 ?_
  unfold denP
  rw [Nat.one_mul]
  exact Nat.pow_lt_pow_right (by omega) (by omega)
 have := c0v (k - 1)
 exact ⟨s1, s2, by omega, by omega, by omega⟩
theorem z0i {x : Dv} {k : Nat} (h0 : x.m ≠ 0) (hl : (dig B32 x.m).length ≤ 20) (he : -18000 ≤ x.e ∧ x.e ≤ 18000) (hk : 1 ≤ k) : -7000 ≤ (numX x k).2 ∧ (numX x k).2 ≤ 7000 := by
 have h := i0p h0 hl hk
 have hb := c0x x.m
 omega
theorem p1y {x : Dv} {g : Gd} {k : Nat} (hg : errG g = 0) (h0 : x.m ≠ 0) (hl : (dig B32 x.m).length ≤ 20) (hin : a0s x g = true) (hk : 1 ≤ k) : -5800 ≤ (numX x k).2 ∧ (numX x k).2 ≤ 5900 := by
 have h := i0p h0 hl hk
 have hb := c0x x.m
 obtain ⟨w1, w2, w3⟩ := l0y hg
 unfold a0s at hin
 rw [if_neg h0] at hin
 by_cases h1 : x.e < wid g * g.lo ∨ wid g * (g.hi + g.digs) < topD x
 · rw [if_pos h1] at hin; cases hin
 · have e : topD x = x.e + blen x.m := rfl
   rw [e, Int.mul_add] at h1
   omega
def m0l (p : Nat → Bool) : Nat → Nat → Nat
 | 0, k => k
 | n + 1, k => if p k then k else m0l p n (k + 1)
theorem o0z (p : Nat → Bool) : ∀ (n k : Nat), k ≤ m0l p n k ∧ (∀ j, k ≤ j → j < m0l p n k → p j = false) ∧ ∀ j, k ≤ j → j < k + n → p j = true → p (m0l p n k) = true ∧ m0l p n k ≤ j
 | 0, k => ⟨Nat.le_refl _, fun j h1 h2 => absurd h2 (by unfold m0l; omega), fun j h1 h2 => by omega⟩
 | n + 1, k => by
  obtain ⟨q1, q2, q3⟩ := o0z p n (k + 1)
  unfold m0l
  cases hp : p k
  · rw [if_neg (by simp)]
    refine ⟨by omega, fun j h1 h2 => ?_, fun j h1 h2 h3 => ?_⟩
    · rcases Nat.lt_or_ge k j with h | h
      · exact q2 j h h2
      · rw [show j = k by omega]; exact hp
    · refine q3 j ?_ (by omega) h3
      rcases Nat.lt_or_ge k j with h | h
      · exact h
      · rw [show j = k by omega, hp] at h3; cases h3
  · rw [if_pos rfl]
    exact ⟨Nat.le_refl _, fun j h1 h2 => by omega, fun j h1 _ _ => ⟨hp, h1⟩⟩
def j0g (f : Fm) (x : Dv) : Nat := m0l (okX f x) 30 1
theorem x0q {f : Fm} {x : Dv} (hG : errG f.g = 0) (hw : wid f.g * f.g.digs.toNat ≤ 64) (hb : Bare x) (hin : a0s x f.g = true) (h0 : x.m ≠ 0) :
 1 ≤ j0g f x ∧ j0g f x ≤ 21 ∧ okX f x (j0g f x) = true ∧ ∀ j, 1 ≤ j → j < j0g f x → okX f x j = false := by
 obtain ⟨q1, q2, q3⟩ := o0z (okX f x) 30 1
 have h21 : okX f x 21 = true := by
  unfold okX
  rw [j1q (c0e hG) hb hin h0 (k := 21) (Nat.lt_of_le_of_lt (Nat.pow_le_pow_right (by omega) hw) (by decide))]
  simp
 have h := q3 21 (by omega) (by omega) h21
 exact ⟨q1, h.2, h.1, q2⟩
theorem p1z {n : Int} (h : IsFm n) : wid (fmt n).g * (fmt n).g.digs.toNat ≤ 64 := by
 rcases s0f h with rfl | rfl | rfl | rfl | rfl | rfl | rfl | rfl <;> decide
theorem h0e (s : ByteArray) : a0d (a0a s) = s := by
 unfold a0d a0a
 rw [List.map_map, show (UInt8.ofNat ∘ UInt8.toNat) = id from funext fun x => by simp]
 simp
theorem s0w {s r : ByteArray} (h : a0a s = a0a r) : s = r := by rw [← h0e s, h, h0e]
theorem q1a {s : ByteArray} : s = ByteArray.mk #[] ↔ a0a s = [] := ⟨fun h => by subst h; rfl, fun h => s0w (by rw [h]; rfl)⟩
def Byt (l : List Nat) : Prop := ∀ x ∈ l, x < 256
theorem Byt.of (s : ByteArray) : Byt (a0a s) := p0z s
theorem Byt.drop {l : List Nat} (h : Byt l) (k : Nat) : Byt (l.drop k) := fun x hx => h x (List.mem_of_mem_drop hx)
theorem Byt.take {l : List Nat} (h : Byt l) (k : Nat) : Byt (l.take k) := fun x hx => h x (List.mem_of_mem_take hx)
theorem Byt.append {l m : List Nat} (h : Byt l) (k : Byt m) : Byt (l ++ m) := fun x hx => (List.mem_append.1 hx).elim (h x) (k x)
theorem m0b {l : List Nat} (h : Byt l) (i j : Nat) : (a0d l).extract i j = a0d ((l.take j).drop i) := s0w (by rw [d0f, a0y h, a0y ((h.take j).drop i)])
theorem q1b (xs ys : List Nat) : a0d xs ++ a0d ys = a0d (xs ++ ys) := by
 apply ByteArray.ext
 simp [a0d]
theorem s0x {l : List Nat} (h : Byt l) : a0d l = ByteArray.mk #[] ↔ l = [] := by rw [q1a, a0y h]
section
variable {P : Program} {W : World}
theorem k1y {s r : ByteArray} (h : s.size + r.size ≤ 9223372036854775807) {t : TypeId} {x y : Operand} : (do eqGuard .add t x y (.string s) (.string r); binOp .add t (.string s) (.string r) : Sem Value).run P W = .ok (.string (s ++ r)) W := by
 simp [go_sem, eqGuard, h]
theorem l0e {s r : ByteArray} {b : Bool} (h : (s = r) ↔ b = true) {t : TypeId} {x y : Operand} : (do eqGuard .eql t x y (.string s) (.string r); binOp .eql t (.string s) (.string r) : Sem Value).run P W = .ok (.bool b) W := by
 cases b
 · have : ¬ s = r := fun k => by have := h.1 k; cases this
   have k : ¬ s.toList = r.toList := fun e => this (by rw [Lib.toList_data, Lib.toList_data] at e; rw [← Lib.mk_data s, e, Lib.mk_data])
   simp [go_sem, eqGuard, k]
 · have := h.2 rfl
   subst this
   simp [go_sem, eqGuard]
theorem k1z {s r : ByteArray} {b : Bool} (h : (s = r) ↔ b = false) {t : TypeId} {x y : Operand} : (do eqGuard .neq t x y (.string s) (.string r); binOp .neq t (.string s) (.string r) : Sem Value).run P W = .ok (.bool b) W := by
 cases b
 · have := h.2 rfl
   subst this
   simp [go_sem, eqGuard]
 · have : ¬ s = r := fun k => by have := h.1 k; cases this
   have k : ¬ s.toList = r.toList := fun e => this (by rw [Lib.toList_data, Lib.toList_data] at e; rw [← Lib.mk_data s, e, Lib.mk_data])
   simp [go_sem, eqGuard, k]
theorem g1p {t : TypeId} (ht : P.underlying t = some .string) {s : ByteArray} {i : Int} {j : Nat} (hi : i = j) (hj : j < s.size) : (VO.sx t (.string s) (.int .i64 i)).sem.run P W = .ok (.int .u8 ((dg (a0a s) j : Nat) : Int)) W := by
 subst hi
 rw [← a1s s j hj]
 simp [VO.sem, go_sem, ht, hj]
theorem j0h {t : TypeId} (ht : P.underlying t = some .string) {s : ByteArray} {lo : Option Value} {hi : Option Value} {i j : Nat} (h1 : lo = none ∧ i = 0 ∨ lo = some (.int .i64 i)) (h2 : hi = none ∧ j = s.size ∨ hi = some (.int .i64 j)) (hij : i ≤ j) (hj : j ≤ s.size) : (VO.sl t (.string s) lo hi none).sem.run P W = .ok (.string (s.extract i j)) W := by
 rcases h1 with ⟨rfl, rfl⟩ | rfl <;> rcases h2 with ⟨rfl, rfl⟩ | rfl <;> simp [VO.sem, go_sem, ht, hij, hj]
end
end Go.Slip
namespace Go.Slip
def mayT (c : Nat) : List Nat → Bool × List Nat
 | b :: r => if b = c then (true, r) else (false, b :: r)
 | [] => (false, [])
theorem m0y {l : List Nat} (h : Byt l) (c : Nat) : Byt (mayT c l).2 := by
 cases l with
 | nil => exact h
 | cons b r =>
  show Byt (if b = c then (true, r) else (false, b :: r)).2
  split
  · exact h.drop 1
  · exact h
theorem t1i {l : List Nat} {j : Nat} (hj : j ≤ l.length) (h : ∀ i, i < j → isDg (dg l i) = true) (hs : j < l.length → isDg (dg l j) = false) : l.takeWhile isDg = l.take j ∧ l.dropWhile isDg = l.drop j := by
 have e := List.take_append_drop j l
 have h1 : ∀ x ∈ l.take j, isDg x = true := fun x hx => by
  obtain ⟨i, hi, rfl⟩ := List.mem_iff_getElem.1 hx
  rw [List.getElem_take]
  have := h i (by rw [List.length_take] at hi; omega)
  rwa [a0x (by rw [List.length_take] at hi; omega)] at this
 rcases Nat.lt_or_ge j l.length with h2 | h2
 · have h3 := hs h2
   rw [a0x h2] at h3
   have h4 := o0l h3 (l.drop (j + 1)) h1
   rw [← List.drop_eq_getElem_cons h2, e] at h4
   exact h4
 · have h4 := y0x h1
   rw [List.take_of_length_le h2] at h4 ⊢
   rw [List.drop_of_length_le h2]
   exact h4
end Go.Slip
namespace Go.Proofs.YtgbbhlginbmghaaGreatDoor
open Go.RowKit Go.Slip
theorem uSt : Tryz.prog.underlying 9 = some .string := by kernel_rfl
theorem q1c (l : List Nat) (hb : Byt l) (c u : Nat) (w : World) (U : Bt w u 159 #[.string (a0d l)]) :
 Calls Tryz.prog 102 #[.pointer (some ⟨u, 0, none⟩), .int .u8 (c : Int)] w fun en w' => en = .returned (.bool (mayT c l).1) ∧ Kp [u] w w' ∧ Bt w' u 159 #[.string (a0d (mayT c l).2)] := by
 cases l with
 | nil =>
  have I := Inv.startW w u 159 [.v (.string (a0d []))] [] U True.intro True.intro
  refine a0c [.p 0 0, .v (.int .u8 (c : Int))] I Tryz.func102 ?_
  refine zbin I 9 _ (fun _ _ _ _ _ => l0e (s := a0d []) (r := ⟨#[]⟩) (iff_of_true rfl rfl)) fun Al W I => zret I fun Al W I => ⟨rfl, I.bel, I.boxE 159 _⟩
 | cons b r =>
  have hn : a0d (b :: r) ≠ ByteArray.mk #[] := fun h => by have := (s0x hb).1 h; cases this
  have h0 : dg (a0a (a0d (b :: r))) 0 = b := by rw [a0y hb]; rfl
  have hz : 0 < (a0d (b :: r)).size := by rw [a0t]; exact Nat.succ_pos _
  have hd : (a0d (b :: r)).extract 1 (a0d (b :: r)).size = a0d r := by rw [m0b hb, a0t, List.take_length]; rfl
  rw [show mayT c (b :: r) = if b = c then (true, r) else (false, b :: r) from rfl]
  generalize hs : a0d (b :: r) = s at *
  have I := Inv.startW w u 159 [.v (.string s)] [] U True.intro True.intro
  refine a0c [.p 0 0, .v (.int .u8 (c : Int))] I Tryz.func102 ?_
  refine zbin I 9 _ (fun _ _ _ _ _ => l0e (s := s) (r := ⟨#[]⟩) (b := false) (iff_of_false hn Bool.false_ne_true)) fun Al W I => zx I 15 (fun _ => .int .u8 (b : Int)) (fun Al W I => (by rw [← h0]; exact g1p uSt rfl hz)) fun Al W I => ?_
  rcases bTF ((b : Int) != (c : Int)) with f17 | f17
  · refine zb I 17 ((b : Int) != (c : Int)) (true) (f17) fun Al W I => zret I (v := fun Al => .bool false) fun Al W I => ?_
    first | (rw [if_neg (fun h => bne_iff_ne.1 f17 (by rw [h]))]; exact ⟨rfl, I.bel, hs ▸ I.boxE 159 _⟩) | (rw [if_pos (by have h : (b : Int) = c := (by simpa using f17); omega)]; exact ⟨rfl, I.bel, I.boxE 159 _⟩)
  refine zb I 17 ((b : Int) != (c : Int)) (false) (f17) fun Al W I => zx I 24 (fun _ => .string (a0d r)) (fun Al W I => (by rw [← hd]; exact j0h uSt (.inr rfl) (.inl ⟨rfl, rfl⟩) hz (Nat.le_refl _))) fun Al W I => zret I (v := fun Al => .bool true) fun Al W I => ?_
  (rw [if_pos (by have h : (b : Int) = c := (by simpa using f17); omega)]; exact ⟨rfl, I.bel, I.boxE 159 _⟩)
theorem b1z (l : List Nat) (hb : Byt l) (hl : l.length ≤ 1000000000) (u : Nat) (w : World) (U : Bt w u 159 #[.string (a0d l)]) :
 Calls Tryz.prog 103 #[.pointer (some ⟨u, 0, none⟩)] w fun en w' => en = .returned (.string (a0d (l.takeWhile isDg))) ∧ Kp [u] w w' ∧ Bt w' u 159 #[.string (a0d (l.dropWhile isDg))] := by
 have hg : a0a (a0d l) = l := a0y hb
 have hz : (a0d l).size = l.length := a0t l
 have ht := fun j => m0b hb 0 j
 have hd : ∀ j, (a0d l).extract j (a0d l).size = a0d (l.drop j) := fun j => by rw [m0b hb, a0t, List.take_length]
 have hT := fun (j : Nat) h1 h2 h3 => t1i (l := l) (j := j) h1 h2 h3
 generalize a0d l = s at *
 have I := Inv.startW w u 159 [.v (.string s)] [] U True.intro True.intro
 refine a0c [.p 0 0] I Tryz.func103 ?_
 refine h0u I (fun gk fr bx gs => ∃ (U900 : Nat → Value) (j : Nat), fr = (.p 0 0 :: .v undef :: .v (Go.Value.string (ByteArray.mk #[])) :: .v (.int .i64 (j : Int)) :: .v undef :: sw U900 5 43 [] : List SV) ∧ bx = [⟨159, [.v (.string s)], false⟩] ∧ gs = [] ∧ (j ≤ l.length) ∧ (∀ i, i < j → isDg (dg l i) = true) ∧ (gk + j = l.length)) l.length (fun Al W U I => ⟨_, ⟨U, 0, rfl, rfl, rfl, (Nat.zero_le _), (fun i hi => absurd hi (Nat.not_lt_zero i)), (Nat.add_zero _)⟩, I.pick []⟩) ?_
 rintro J0 gk0 _ _ _ ⟨U900, j, rfl, rfl, rfl, hj, hall, hgk⟩ hJ0 Al W I
 rcases bTF (decide ((j : Int) < (s.size : Int))) with f11 | f11
 · refine zb I 11 (decide ((j : Int) < (s.size : Int))) (true) (f11) fun Al W I => zx I 18 (fun _ => .int .u8 ((dg l j : Nat) : Int)) (fun Al W I => (by rw [← hg]; exact g1p uSt rfl (by have := oTr f11; omega))) fun Al W I => ?_
   rcases bTF (decide (((dg l j : Nat) : Int) ≥ 48)) with f19 | f19
   · refine zb I 19 (decide (((dg l j : Nat) : Int) ≥ 48)) (true) (f19) fun Al W I => zx I 27 (fun _ => .int .u8 ((dg l j : Nat) : Int)) (fun Al W I => (by rw [← hg]; exact g1p uSt rfl (by have := oTr f11; omega))) fun Al W I => ?_
     rcases bTF (decide (((dg l j : Nat) : Int) ≤ 57)) with f28 | f28
     · refine zb I 28 (decide (((dg l j : Nat) : Int) ≤ 57)) (true) (f28) fun Al W I => zi I 31 .i64 ((j : Int) + 1) ((((j + 1 : Nat) : Int))) ((by have := oTr f11; exact iwo)) fun Al W I => a0i I J0 fun Al W U I => hJ0 (gk0 - 1) _ _ _ _ _ ((by have := oTr f11; omega)) ⟨U, j + 1, rfl, rfl, rfl, (by have := oTr f11; omega), (fun i hi => by have := oTr f19; have := oTr f28; exact (Nat.lt_or_ge i j).elim (fun h => hall i h) (fun h => by rw [show i = j by omega]; exact s0i (by omega))), (by have := oTr f11; omega)⟩ (I.pick [])
     refine zb I 28 (decide (((dg l j : Nat) : Int) ≤ 57)) (false) (f28) fun Al W I => zx I 37 (fun _ => .string (s.extract 0 j)) (fun Al W I => (j0h uSt (.inl ⟨rfl, rfl⟩) (.inr rfl) (Nat.zero_le _) (by omega))) fun Al W I => zx I 44 (fun _ => .string (s.extract j s.size)) (fun Al W I => (j0h uSt (.inr rfl) (.inl ⟨rfl, rfl⟩) (by omega) (Nat.le_refl _))) fun Al W I => ?_
     have hst : j < l.length → isDg (dg l j) = false := fun hjl => by ((have := oFa f28; unfold isDg; rw [decide_eq_false (p := dg l j ≤ 57) (by omega), Bool.and_false]))
     obtain ⟨e1, e2⟩ := hT j hj hall hst
     rw [e1, e2, ← hd j]
     exact zret I (v := fun Al => .string (s.extract 0 j)) fun Al W I => ⟨by rw [ht j]; rfl, I.bel, I.boxE 159 _⟩
   refine zb I 19 (decide (((dg l j : Nat) : Int) ≥ 48)) (false) (f19) fun Al W I => zx I 37 (fun _ => .string (s.extract 0 j)) (fun Al W I => (j0h uSt (.inl ⟨rfl, rfl⟩) (.inr rfl) (Nat.zero_le _) (by omega))) fun Al W I => zx I 44 (fun _ => .string (s.extract j s.size)) (fun Al W I => (j0h uSt (.inr rfl) (.inl ⟨rfl, rfl⟩) (by omega) (Nat.le_refl _))) fun Al W I => ?_
   have hst : j < l.length → isDg (dg l j) = false := fun hjl => by ((have := oFa f19; unfold isDg; rw [decide_eq_false (by omega)]; rfl))
   obtain ⟨e1, e2⟩ := hT j hj hall hst
   rw [e1, e2, ← hd j]
   exact zret I (v := fun Al => .string (s.extract 0 j)) fun Al W I => ⟨by rw [ht j]; rfl, I.bel, I.boxE 159 _⟩
 refine zb I 11 (decide ((j : Int) < (s.size : Int))) (false) (f11) fun Al W I => zx I 37 (fun _ => .string (s.extract 0 j)) (fun Al W I => (j0h uSt (.inl ⟨rfl, rfl⟩) (.inr rfl) (Nat.zero_le _) (by omega))) fun Al W I => zx I 44 (fun _ => .string (s.extract j s.size)) (fun Al W I => (j0h uSt (.inr rfl) (.inl ⟨rfl, rfl⟩) (by omega) (Nat.le_refl _))) fun Al W I => ?_
 have hst : j < l.length → isDg (dg l j) = false := fun hjl => by ((have := oFa f11; exfalso; omega))
 obtain ⟨e1, e2⟩ := hT j hj hall hst
 rw [e1, e2, ← hd j]
 exact zret I (v := fun Al => .string (s.extract 0 j)) fun Al W I => ⟨by rw [ht j]; rfl, I.bel, I.boxE 159 _⟩
end Go.Proofs.YtgbbhlginbmghaaGreatDoor
namespace Go.Proofs.YtgbbhlginbmghaaGreatDoor
def x0r : Go.Shelf.Ren := ⟨fun | 161 => 44 | 231 => 105 | 227 => 106 | 233 => 107 | 235 => 108 | 228 => 161 | 197 => 162 | 151 => 163 | 260 => 227 | 152 => 228 | 137 => 264 | 119 => 265 | 224 => 266 | 225 => 267 | 217 => 283 | 266 => 285 | n => n, fun | 9 => 9 | 4 => 4 | 3 => 3 | 5 => 5 | 117 => 171 | 116 => 170 | 0 => 0 | 124 => 174 | 105 => 222 | 21 => 21 | 119 => 280 | 46 => 167 | 139 => 283 | 138 => 282 | n => n, fun | 3 => 3 | 4 => 4 | n => n⟩
theorem q1d : Go.Proofs.Lays.n161 Tryz.prog x0r := by constructor <;> first | (intros; kernel_rfl) | (constructor <;> (intros; kernel_rfl))
def x0s : Go.Shelf.Ren := ⟨fun | 172 => 104 | 244 => 159 | 245 => 160 | 247 => 222 | 279 => 223 | 280 => 224 | 281 => 225 | 282 => 226 | 287 => 261 | 316 => 262 | 171 => 69 | 205 => 263 | 321 => 281 | 322 => 282 | 243 => 138 | 246 => 175 | 283 => 232 | 284 => 233 | 285 => 234 | 286 => 235 | 129 => 269 | 317 => 268 | 318 => 270 | 319 => 271 | 320 => 272 | 337 => 164 | 338 => 284 | n => n, fun | 9 => 9 | 3 => 3 | 75 => 163 | 76 => 164 | 4 => 4 | 5 => 5 | 167 => 244 | 37 => 44 | 0 => 0 | 85 => 245 | 2 => 2 | 168 => 247 | 53 => 166 | 175 => 274 | 46 => 167 | 210 => 278 | 127 => 299 | 145 => 302 | 143 => 300 | 21 => 21 | 171 => 253 | 173 => 256 | 212 => 289 | 51 => 139 | 20 => 20 | 213 => 290 | 232 => 251 | 233 => 303 | 80 => 161 | n => n, fun | 15 => 1 | 16 => 2 | 17 => 5 | 18 => 0 | 19 => 7 | n => n⟩
theorem q1e : Go.Proofs.Lays.n172 Tryz.prog x0s := by constructor <;> first | (intros; kernel_rfl) | (constructor <;> (intros; kernel_rfl))
def v0g : Go.Shelf.Ren := ⟨fun | 171 => 69 | 243 => 138 | 246 => 175 | 283 => 232 | 284 => 233 | 285 => 234 | 286 => 235 | 129 => 269 | 317 => 268 | 318 => 270 | 319 => 271 | 320 => 272 | 337 => 164 | 338 => 284 | n => n, fun | 3 => 3 | 9 => 9 | 2 => 2 | 4 => 4 | 171 => 253 | 0 => 0 | 53 => 166 | 37 => 44 | 5 => 5 | 173 => 256 | 212 => 289 | 51 => 139 | 20 => 20 | 213 => 290 | 46 => 167 | 232 => 251 | 233 => 303 | n => n, fun | 17 => 5 | 18 => 0 | 19 => 7 | n => n⟩
theorem l1a : Go.Proofs.LaysM.n171 Tryz.prog v0g := by constructor <;> first | (intros; kernel_rfl) | (constructor <;> (intros; kernel_rfl))
end Go.Proofs.YtgbbhlginbmghaaGreatDoor
namespace Go.Slip
open Go.RowKit
theorem v0h (d : Nat) (h : d < 10) : (UInt8.ofNat (48 + d)).toNat = d + 48 := by rw [UInt8.toNat_ofNat', Nat.mod_eq_of_lt (by omega)]; omega
theorem q0p (u : Nat) : (Lib.decDigits u).map UInt8.toNat = a0z u := by
 have hz : ∀ v, 0 < v → a0z v = (dig 10 v).reverse.map (· + 48) := fun v h => by unfold a0z; rw [if_neg (by omega)]
 induction u using Nat.strongRecOn with
 | _ u ih =>
  rw [Lib.decDigits]
  by_cases h : u < 10
  · rw [dif_pos h, List.map_cons, List.map_nil, v0h u h]
    by_cases h0 : u = 0
    · subst h0; rfl
    · rw [hz u (by omega), e0e (B := 10) (by omega) (by omega), Nat.mod_eq_of_lt h, Nat.div_eq_of_lt h, a0e]; rfl
  · rw [dif_neg h, List.map_append, ih (u / 10) (by omega), List.map_cons, List.map_nil, v0h _ (Nat.mod_lt _ (by omega)), hz u (by omega), hz (u / 10) (by omega), e0e (B := 10) (n := u) (by omega) (by omega)]
    simp
theorem c1a (n : Int) : (⟨(Lib.itoa n).toArray⟩ : ByteArray) = a0d (f0x n) := by
 apply s0w
 have hb : Byt (f0x n) := by
  intro x hx
  unfold f0x at hx
  split at hx
  · rcases List.mem_cons.1 hx with rfl | hx
    · omega
    · have := g0n _ x hx; omega
  · have := g0n _ x hx; omega
 rw [a0y hb]
 unfold a0a Lib.itoa f0x
 split
 · rw [show (-n).toNat = n.natAbs by omega, ← q0p]; rfl
 · rw [← q0p]
theorem q0q : ∀ (l : List UInt8) (a : Nat), (∀ y ∈ l, isDg y.toNat = true) → Lib.decFrom a l = some ((l.map UInt8.toNat).foldl (fun a b => 10 * a + (b - 48)) a)
 | [], a, _ => rfl
 | b :: r, a, h => by
  have h1 := f0f.1 (h b List.mem_cons_self)
  have h2 := q0q r (a * 10 + (b.toNat - 48)) fun y hy => h y (List.mem_cons_of_mem b hy)
  rw [Lib.decFrom]
  unfold Lib.digitVal
  rw [if_pos h1]
  simp only
  rw [h2, List.map_cons, List.foldl_cons, Nat.mul_comm a 10]
theorem l1b {m : List UInt8} (hd : ∀ y ∈ m, isDg y.toNat = true) (h2 : m ≠ []) : Lib.atoi m = some ((a0n (m.map UInt8.toNat) : Nat) : Int) := by
 cases m with
 | nil => exact absurd rfl h2
 | cons b r =>
  have hb1 := f0f.1 (hd b List.mem_cons_self)
  have hn : ∀ k : UInt8, k.toNat < 48 → (b == k) = false := fun k hk => bFn fun h => by subst h; omega
  unfold Lib.atoi
  simp only [hn 45 (by decide), hn 43 (by decide), Bool.false_eq_true, if_false]
  unfold Lib.decNat
  rw [if_neg (by simp), q0q _ _ hd]
  rfl
theorem q1f {x : List Nat} (hb : Byt x) (h1 : ∀ y ∈ x, isDg y = true) (h2 : x ≠ []) : Lib.atoi (a0d x).data.toList = some ((a0n x : Nat) : Int) := by
 have e : (a0d x).data.toList.map UInt8.toNat = x := a0y hb
 have k := l1b (m := (a0d x).data.toList) (fun y hy => h1 _ (by rw [← e]; exact List.mem_map_of_mem hy)) (fun h => h2 (by rw [← e, h]; rfl))
 rw [e] at k
 exact k
theorem g1q {l : List Nat} : ∀ x ∈ l.dropWhile (· == 48), x ∈ l := fun _ hx => List.dropWhile_sublist _ |>.subset hx
theorem c1b (l : List Nat) (hb : Byt l) : (⟨(Lib.trimLeftB (a0d l).data.toList 48).toArray⟩ : ByteArray) = a0d (l.dropWhile (· == 48)) := by
 apply s0w
 rw [a0y fun x hx => hb x (g1q x hx)]
 have e : (a0d l).data.toList.map UInt8.toNat = l := a0y hb
 have key : ∀ m : List UInt8, (m.dropWhile (· == 48)).map UInt8.toNat = (m.map UInt8.toNat).dropWhile (· == 48) := by
  intro m
  induction m with
  | nil => rfl
  | cons b r ih =>
   rw [List.map_cons, List.dropWhile_cons, List.dropWhile_cons]
   by_cases h : b = 48
   · subst h; simpa using ih
   · have h1 : (b == 48) = false := bFn h
     have h2 : (b.toNat == 48) = false := bFn fun k => h (UInt8.toNat_inj.1 (by rw [k]; rfl))
     rw [h1, h2]; rfl
 have := key (a0d l).data.toList
 rw [e] at this
 exact this
theorem c1c (l : List Nat) : a0n (l.dropWhile (· == 48)) = a0n l := by
 induction l with
 | nil => rfl
 | cons b r ih =>
  rw [List.dropWhile_cons]
  split
  · rename_i h
    rw [ih, beq_iff_eq.1 h]
    rfl
  · rfl
end Go.Slip
namespace Go.Proofs.YtgbbhlginbmghaaGreatDoor
open Go.RowKit Go.Slip
def PowW (w : World) : Prop := Lib.TabIs Tryz.prog w "internal/strconv.uint64pow10" .u64 Lib.pow10Tab ∧ 5 < w.heap.size
theorem PowW.same {w w' : World} (h : PowW w) (hb : w'.heap[5]? = w.heap[5]?) (hs : w.heap.size ≤ w'.heap.size) : PowW w' := by
 refine ⟨?_, Nat.lt_of_lt_of_le h.2 hs⟩
 have h1 := h.1
 unfold Lib.TabIs World.var? at h1 ⊢
 rw [show Tryz.prog.globalNamed "internal/strconv.uint64pow10" = some 5 by kernel_rfl] at h1 ⊢
 simp only [Option.bind_some] at h1 ⊢
 rw [hb]; exact h1
def powF : PF := ⟨PowW, fun a => 5 = a, fun _ _ h hb hs => h.same (hb _ h.2 rfl) hs, fun _ _ h hf => hf ▸ h.2⟩
theorem PowW.past {w w' : World} (h : PowW w) (hb : Below w.heap.size w w') : PowW w' := h.same (hb.block _ h.2) hb.size
theorem l1c (x : List Nat) (h1 : ∀ y ∈ x, isDg y = true) (h2 : x ≠ []) (h3 : x.length ≤ 5) (w : World) : Calls Tryz.prog 104 #[.string (a0d x)] w fun en w' => en = .returned (.tuple #[.int .i64 ((a0n x : Nat) : Int), .nilIface]) ∧ Below w.heap.size w w' := by
 have hb : Byt x := fun y hy => by have := f0f.1 (h1 y hy); omega
 refine (Any.strconv_Atoi q1e (a0d x) _ (by rw [a0t]; omega) (q1f hb h1 h2) w).mono ?_
 rintro e w' ⟨rfl, t, rfl⟩
 exact ⟨rfl, f0b (Nat.le_refl _) _ _⟩
theorem l1d (n : Int) (h : -9223372036854775808 ≤ n ∧ n ≤ 9223372036854775807) (w : World) (hT : PowW w) : Calls Tryz.prog 69 #[.int .i64 n] w fun en w' => en = .returned (.string (a0d (f0x n))) ∧ Below w.heap.size w w' := by
 refine (Any.strconv_Itoa l1a n h.1 h.2 w hT.1).mono ?_
 rintro e w' ⟨rfl, k, os, rfl⟩
 refine ⟨by rw [c1a], ?_⟩
 exact ⟨rfl, rfl, rfl, by simp [Sort.grow], fun b hb => by simp [Sort.grow]; rw [Array.getElem?_append_left hb]⟩
theorem l1e (l : List Nat) (hb : Byt l) (w : World) : Calls Tryz.prog 44 #[.string (a0d l), .string ⟨#[48]⟩] w fun en w' => en = .returned (.string (a0d (l.dropWhile (· == 48)))) ∧ Below w.heap.size w w' := by
 refine (Any.strings_TrimLeft_one q1d (a0d l) 48 (by decide) w).mono ?_
 rintro e w' ⟨rfl, rfl⟩
 exact ⟨by rw [c1b l hb], Below.refl _ _⟩
end Go.Proofs.YtgbbhlginbmghaaGreatDoor
namespace Go.Proofs.YtgbbhlginbmghaaGreatDoor
open Go.ChangeShapes Go.WideShapes Go.ChangeAt Go.RowKit Go.Slip
def s0y : List (String × DataW Unit) := [("math/bits.deBruijn32tab", Rows.laid_math_bits_deBruijn32tab), ("math/bits.deBruijn64tab", Rows.laid_math_bits_deBruijn64tab), ("internal/strconv.uint64pow10", Rows.laid_internal_strconv_uint64pow10), ("unicode/utf8.acceptRanges", Rows.laid_unicode_utf8_acceptRanges), ("strconv.ErrRange", Rows.laid_strconv_ErrRange), ("strconv.ErrSyntax", Rows.laid_strconv_ErrSyntax), ("unicode/utf8.first", Rows.laid_unicode_utf8_first)]
theorem g1r : s0y.filter (fun x => x.1 == "math/bits.deBruijn32tab") = [("math/bits.deBruijn32tab", Rows.laid_math_bits_deBruijn32tab)] := by kernel_rfl
theorem g1s : s0y.filter (fun x => x.1 == "internal/strconv.uint64pow10") = [("internal/strconv.uint64pow10", Lib.tabData .u64 Lib.pow10Tab)] := by kernel_rfl
theorem l1f {W : World} (h : laidMetH Tryz.prog s0y W) : TabW W ∧ PowW W := by
 have h1 := h.filter (fun x => x.1 == "math/bits.deBruijn32tab")
 have h2 := h.filter (fun x => x.1 == "internal/strconv.uint64pow10")
 rw [g1r] at h1
 rw [g1s, MakeChecks.laidMetH_plain _ _ _ (by kernel_rfl)] at h2
 have hg : Tryz.prog.globalNamed "internal/strconv.uint64pow10" = some 5 := by kernel_rfl
 have h3 := Lib.tabIs_of_head (t := 289) (e := 166) (n := 20) hg (by kernel_rfl) (by kernel_rfl) (by kernel_rfl) (by kernel_rfl) (by kernel_rfl) h2
 exact ⟨w0j h1, h3, World.block_lt_of_cell? W _ (h3.cell hg 0 (by decide))⟩
end Go.Proofs.YtgbbhlginbmghaaGreatDoor
namespace Go.Slip
theorem g1t {w : World} {b : Nat} {t : TypeId} {k : IntKind} {x0 x1 x2 x3 : Nat} (h : Bt w b t #[.int k (x0 : Int), .int k (x1 : Int), .int k (x2 : Int), .int k (x3 : Int)]) : Rd w k (some ⟨b, 0, none⟩) [x0, x1, x2, x3] := by
 refine ⟨fun _ => ⟨rfl, rfl⟩, fun j hj => ?_⟩
 obtain ⟨h0, h1, h2, h3⟩ := h.bx.e4
 simp only [List.length_cons, List.length_nil] at hj
 match j, hj with
 | 0, _ => exact h0
 | 1, _ => exact h1
 | 2, _ => exact h2
 | 3, _ => exact h3
theorem l1g {P : Program} {a : Act} {w : World} {x y : Operand} {dst : Option Tmp} {t t2 tt : TypeId} {pos : String} {af : Array Edge} {g : Option (Nat × Bool)} {s : ByteArray} (hx : a.eval x = .string s) (hy : a.eval y = .string s) :
 (execOp a.eval ⟨dst, .binOp .eql t x y tt, t2, pos, af, g⟩).run P w = .ok (.value (.bool true)) w := by
 unfold execOp
 simp only [hx, hy]
 simp [go_sem, eqGuard]
end Go.Slip
namespace Go.Proofs.YtgbbhlginbmghaaGreatDoor
open Go.RowKit Go.Slip
def x0t (n cls : Int) (a : Din) : Int := if IsFm n then c0h (fmt n) cls a else 6
theorem c1d (n : Int) (cls : Int) (a : Din) (w : World) (ha : InD w a) (hT : TabW w) :
 Calls Tryz.prog 121 #[.int .i64 n, .agg #[.int .i64 cls, .bool a.g, .slice a.p a.xs.length a.c, .int .i64 a.e]] w (v0e w (x0t n cls a) (q0o (fmt n) cls a)) := by
 unfold x0t
 by_cases hn : IsFm n
 · rw [if_pos hn]; exact g1i n cls a w hn ha hT
 · rw [if_neg hn]
   have HF := fun W => lHd (i0e n hn W)
   generalize q0o (fmt n) cls a = s
   have I := Inv.start w [] True.intro
   refine a0c [.v (.int .i64 n), .v (.agg #[.int .i64 cls, .bool a.g, .slice a.p a.xs.length a.c, .int .i64 a.e])] I Tryz.func121 ?_
   refine zq I (fun Al W I => (HF W).out) fun Al W I => zret I fun Al W I => c0m (r := 6) rfl (by decide) rfl I.below
def a5 : Din := ⟨false, none, 0, [], 0⟩
theorem c1e (f : Fm) {k : Nat} (h : k ≠ 2) (g : Bool) (d d' : Dv) : f.encP k g d = f.encP k g d' := by
 unfold Fm.encP
 rw [if_neg h, if_neg h]
theorem x0u {f : Fm} (G : c0g f) {neg : Bool} {e x : Nat} (he : e < 2 ^ f.E) (hx : x < 2 ^ f.F) : a0q f (a0d (f.str neg e x)) = f.pat neg e x := by
 have ho : f.ord = 1 → f.size % 2 = 0 := fun _ => by have := G.sz; omega
 unfold a0q
 rw [a0y (by unfold Fm.str; exact q0h (by rw [d0v]; exact ho) (u0d _ _)), s1k G he hx]
theorem s0z {r : Nat} (h : (dig B32 r).length ≤ 1200) : b0b (dig B32 r) = 0 := by rw [Go.Slip.p0r, if_neg (by omega)]
structure Is (a : Din) (v : Vl) : Prop where
 g : a.g = v.neg
 xs : a.xs = dig B32 v.d
 e : a.e = v.pow
theorem Is.num {a : Din} {v : Vl} (h : Is a v) (f : Fm) : numD f a = bare ⟨v.neg, v.d, wid f.g * v.pow⟩ := by
 unfold numD
 rw [h.g, h.xs, h.e, b0o a0b]
def dinV (v : Vl) (p : OA) (c : Nat) : Din := ⟨v.neg, p, c, dig B32 v.d, v.pow⟩
theorem q1g {v : Vl} {p : OA} {c base : Nat} {w : World} (h : Own w base .u32 139 p c (dig B32 v.d)) (hl : (dig B32 v.d).length ≤ 1000) : InD w (dinV v p c) :=
 ⟨h.rd, h.le_cap, by show (dig B32 v.d).length ≤ _; omega, c0c a0b _⟩
end Go.Proofs.YtgbbhlginbmghaaGreatDoor
