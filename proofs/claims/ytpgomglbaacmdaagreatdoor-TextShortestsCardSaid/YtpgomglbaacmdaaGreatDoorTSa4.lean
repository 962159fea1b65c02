/- codec: forms, Size, Grid, open, and how bytes are ordered. -/
import Derived.Deep.LoopGhost
import Derived.Laws.BitsAllLaws
import Derived.Deep.RegionLaw
import Derived.Deep.RegionHeld3
import Derived.Deep.DeepCutAuto
import Derived.Outline
import Derived.Maps.AppendAt
import Derived.Lib.MinMax
import Derived.Maps.Own
import Derived.Test.YtpgomglbaacmdaaGreatDoorTSa1
import Derived.Test.YtpgomglbaacmdaaGreatDoorTSa2
import Derived.Test.YtpgomglbaacmdaaGreatDoorTSa3
set_option maxHeartbeats 8000000
set_option maxRecDepth 100000
namespace Go.Slip
def WRel (L xs : List Nat) (i : Nat) : Prop := L.length = xs.length ∧ i % 2 = 0 ∧ i ≤ xs.length ∧ ∀ t, t < xs.length → dg L t = if t < i then dg xs (plc 1 xs.length t) else dg xs t
theorem WRel.start (xs : List Nat) : WRel xs xs 0 := ⟨rfl, rfl, by omega, fun t _ => by simp⟩
theorem WRel.step {L xs : List Nat} {i : Nat} (h : WRel L xs i) (hi : i + 1 < xs.length) : WRel ((L.set i (dg L (i + 1))).set (i + 1) (dg L i)) xs (i + 2) := by
 obtain ⟨h1, h2, h3, h4⟩ := h
 refine ⟨by simp [h1], by omega, by omega, fun t ht => ?_⟩
 have e1 := h4 (i + 1) hi
 have e2 := h4 i (by omega)
 rw [if_neg (by omega)] at e1 e2
 by_cases a : t = i + 1
 · subst a
   rw [b0p (by simp; omega), if_pos (by omega), e2]
   unfold plc
   rw [if_neg (by omega), if_pos rfl]
   congr 1
   omega
 · rw [b0r (by omega)]
   by_cases b : t = i
   · subst b
     rw [b0p (by omega), if_pos (by omega), e1]
     unfold plc
     rw [if_neg (by omega), if_pos rfl]
     congr 1
     omega
   · rw [b0r (by omega), h4 t ht]
     by_cases c : t < i
     · rw [if_pos c, if_pos (by omega)]
     · rw [if_neg c, if_neg (by omega)]
theorem WRel.done {L xs : List Nat} {i : Nat} (h : WRel L xs i) (hi : ¬ i + 1 < xs.length) (h2 : xs.length % 2 = 0) : L = ordL 1 xs := by
 obtain ⟨k1, k2, k3, k4⟩ := h
 refine r0m (by rw [c0b, k1]) fun t ht => ?_
 rw [k1] at ht
 rw [n0a ht, k4 t ht, if_pos (by omega)]
end Go.Slip
namespace Go.Proofs.YtpgomglbaacmdaaGreatDoor
open Go.RowKit Go.Slip
def ordF (f : Fm) : Nat := if f.ext then 82 else if f.fam = 3 then 84 else 81
abbrev fV (f : Fm) : Value := .agg #[.int .i64 (f.size : Int), .int .i64 (f.E : Int), .int .i64 (f.F : Int), .int .i64 f.g.rad, .int .i64 f.g.digs, .int .i64 f.g.lo, .int .i64 f.g.hi, .bool f.g.grad, .bool f.hid, .bool f.inf, .bool f.res, .func (.func (ordF f)) #[] #[]]
theorem v0u (base : Nat) (p : OA) (n c : Nat) (xs : List Nat) (w : World) (ho : Wr w base .u8 p xs) (hn : n = xs.length) (hl : xs.length ≤ 4000000000) (h0 : 0 < xs.length) :
 Calls Tryz.prog 82 #[.slice p n c] w fun e w' => e = .returned (.tuple #[]) ∧ Wr w' base .u8 p xs.reverse ∧ w.grownBy w' (some (blk p)) := by
 subst hn
 have HR0 := hi0 (i0l.start xs h0)
 have hsx := ho.rd.solid
 go_enter Tryz.func82, Tryz.ntmps82
 go_wp2
 go_loopw [2, 3] (fun iv jv wr => ∃ (i j : Nat) (L : List Nat), iv = .int .i64 i ∧ jv = .int .i64 j ∧ i ≤ xs.length ∧ j < xs.length ∧ Wr wr base .u8 p L ∧ w.grownBy wr (some (blk p)) ∧ Hid (i0l L xs i j))
  (fun iv _ _ => xs.length - (intOf iv).toNat)
 case atStart => exact ⟨0, xs.length - 1, xs, rfl, by go_num, Nat.zero_le _, by omega, ho, World.grownBy.refl _ _, HR0⟩
 case round =>
  obtain ⟨i, j, L, rfl, rfl, hi, hj, hoL, hbL, HR⟩ := hrel
  by_cases hij : i < j
  · have hLl := hi0 HR.out.1
    have ci := hoL.rd.cells i (by rw [hLl.out]; omega)
    have cj := hoL.rd.cells j (by rw [hLl.out]; omega)
    have fi := hoL.fr i (by rw [hLl.out]; omega)
    have s1 := hoL.set i (by rw [hLl.out]; omega) (dg L j)
    have fj := s1.1.fr j (by rw [List.length_set, hLl.out]; omega)
    have cj2 := s1.1.rd.cells j (by rw [List.length_set, hLl.out]; omega)
    rw [b0r (by omega)] at cj2
    have s2 := s1.1.set j (by rw [List.length_set, hLl.out]; omega) (dg L i)
    have HS := hi0 (HR.out.step hij)
    have i1 : (i : Int) < (xs.length : Int) := by omega
    have j1 : (j : Int) < (xs.length : Int) := by omega
    have i0 : (0 : Int) ≤ (i : Int) := by omega
    have j0 : (0 : Int) ≤ (j : Int) := by omega
    have hb3 : w.grownBy ((wr.setCell (at_ p i) (.int .u8 (dg L j : Nat))).setCell (at_ p j) (.int .u8 (dg L i : Nat))) (some (blk p)) :=
     k1g (k1g hbL s1.2.1) s2.2.1
    have S2 := hi0 s2
    have HB := hi0 hb3
    clear s1 s2 hb3
    go_wp2_with fail
    go_region
    have ho3 := S2.out.1.drew
    have hb3 := g1d HB.out
    clear ci cj fi fj cj2 S2 HB
    generalize ((wr.setCell (at_ p i) (.int .u8 (dg L j : Nat))).setCell (at_ p j) (.int .u8 (dg L i : Nat))).drew = w3 at ho3 hb3 ⊢
    go_wp2
    go_roundw
    case rel => exact ⟨i + 1, j - 1, _, by go_num, by go_num, by omega, by omega, ho3, hb3, HS⟩
    case measure => first | (simp [intOf]; done) | (simp [intOf]; omega)
  · have HD := hi0 (HR.out.done hij)
    go_wp2
    go_end0
    exact ⟨rfl, HD.out ▸ hoL, hbL⟩
theorem g1e (base : Nat) (p : OA) (n c : Nat) (xs : List Nat) (w : World) (ho : Wr w base .u8 p xs) (hn : n = xs.length) (hl : xs.length ≤ 4000000000) (h2 : xs.length % 2 = 0) :
 Calls Tryz.prog 84 #[.slice p n c] w fun e w' => e = .returned (.tuple #[]) ∧ Wr w' base .u8 p (ordL 1 xs) ∧ w.grownBy w' (some (blk p)) := by
 subst hn
 have HR0 := hi0 (WRel.start xs)
 have HE := hi0 h2
 clear h2
 have hsx := ho.rd.solid
 go_enter Tryz.func84, Tryz.ntmps84
 go_wp2
 go_loopw [2] (fun iv wr => ∃ (i : Nat) (L : List Nat), iv = .int .i64 i ∧ i ≤ xs.length ∧ Wr wr base .u8 p L ∧ w.grownBy wr (some (blk p)) ∧ Hid (WRel L xs i))
  (fun iv _ => xs.length - (intOf iv).toNat)
 case atStart => exact ⟨0, xs, rfl, Nat.zero_le _, ho, World.grownBy.refl _ _, HR0⟩
 case round =>
  obtain ⟨i, L, rfl, hi, hoL, hbL, HR⟩ := hrel
  by_cases hij : i + 1 < xs.length
  · have hLl := hi0 HR.out.1
    have ci := hoL.rd.cells i (by rw [hLl.out]; omega)
    have cj := hoL.rd.cells (i + 1) (by rw [hLl.out]; omega)
    have fi := hoL.fr i (by rw [hLl.out]; omega)
    have s1 := hoL.set i (by rw [hLl.out]; omega) (dg L (i + 1))
    have fj := s1.1.fr (i + 1) (by rw [List.length_set, hLl.out]; omega)
    have cj2 := s1.1.rd.cells (i + 1) (by rw [List.length_set, hLl.out]; omega)
    rw [b0r (by omega)] at cj2
    have s2 := s1.1.set (i + 1) (by rw [List.length_set, hLl.out]; omega) (dg L i)
    have HS := hi0 (HR.out.step hij)
    have i1 : (i : Int) < (xs.length : Int) := by omega
    have j1 : ((i + 1 : Nat) : Int) < (xs.length : Int) := by omega
    have i0 : (0 : Int) ≤ (i : Int) := by omega
    have j0 : (0 : Int) ≤ ((i + 1 : Nat) : Int) := by omega
    have e1 : IntKind.i64.wrap ((i : Int) + 1) = ((i + 1 : Nat) : Int) := (iwo).trans (by omega)
    have e2 : IntKind.i64.wrap ((i : Int) + 2) = ((i + 2 : Nat) : Int) := (iwo).trans (by omega)
    have hb3 : w.grownBy ((wr.setCell (at_ p i) (.int .u8 (dg L (i + 1) : Nat))).setCell (at_ p (i + 1)) (.int .u8 (dg L i : Nat))) (some (blk p)) :=
     k1g (k1g hbL s1.2.1) s2.2.1
    have S2 := hi0 s2
    have HB := hi0 hb3
    clear s1 s2 hb3
    generalize hj : i + 1 = j at *
    go_wp2_with fail
    go_region
    have ho3 := S2.out.1.drew
    have hb3 := g1d HB.out
    clear ci cj fi fj cj2 S2 HB
    generalize ((wr.setCell (at_ p i) (.int .u8 (dg L j : Nat))).setCell (at_ p j) (.int .u8 (dg L i : Nat))).drew = w3 at ho3 hb3 ⊢
    go_wp2
    go_roundw
    case rel => exact ⟨i + 2, _, by go_num, by omega, ho3, hb3, HS⟩
    case measure => first | (simp [intOf]; done) | (simp [intOf]; omega)
  · have HD := hi0 (HR.out.done hij HE.out)
    go_wp2
    go_end0
    exact ⟨rfl, HD.out ▸ hoL, hbL⟩
theorem k1h (p : OA) (n c : Nat) (w : World) :
 Calls Tryz.prog 81 #[.slice p n c] w fun e w' => e = .returned (.tuple #[]) ∧ Below w.heap.size w w' := by
 have I := Inv.start w [] True.intro
 refine a0g [.v (.slice p n c)] I Tryz.func81 ?_
 exact zrb I
theorem g1f (f : Fm) (args : Array Value) (w : World) : (callFunc (ordF f) args).run Tryz.prog w = .ok (.enter (ordF f) args) w := by
 unfold ordF
 split
 · kernel_rfl
 · split <;> kernel_rfl
theorem g1g (f : Fm) (base : Nat) (p : OA) (n c : Nat) (xs : List Nat) (w : World) (G : d0h f) (ho : Wr w base .u8 p xs) (hn : n = xs.length) (hs : xs.length = f.size) :
 Calls Tryz.prog (ordF f) #[.slice p n c] w fun e w' => e = .returned (.tuple #[]) ∧ Wr w' base .u8 p (ordL f.ord xs) ∧ w.grownBy w' (some (blk p)) := by
 have hz := G.sz
 unfold ordF Fm.ord
 cases f.ext with
 | true =>
  rw [if_pos rfl, if_pos rfl, j1x]
  exact v0u base p n c xs w ho hn (by omega) (by omega)
 | false =>
  rw [if_neg (show ¬ (false = true) by simp), if_neg (show ¬ (false = true) by simp)]
  by_cases h : f.fam = 3
  · rw [if_pos h, if_pos h]
    exact g1e base p n c xs w ho hn (by omega) (by omega)
  · rw [if_neg h, if_neg h, f1v]
    exact (k1h p n c w).mono fun e w' ⟨h1, h2⟩ => ⟨h1, ho.past h2, u1h h2 _⟩
theorem f0x (d l g : Int) (gr : Bool) (w : World) : Calls Tryz.prog 80 #[.int .i64 d, .int .i64 l, .int .i64 g, .bool gr] w
 fun e w' => e = .returned (.agg #[.int .i64 2, .int .i64 d, .int .i64 l, .int .i64 g, .bool gr]) ∧ Below w.heap.size w w' := by
 have I := Inv.start w [] True.intro
 refine a0g [.v (.int .i64 d), .v (.int .i64 l), .v (.int .i64 g), .v (.bool gr)] I Tryz.func80 ?_
 exact zrb I
theorem v0v (d l g : Int) (w : World) : Calls Tryz.prog 83 #[.int .i64 d, .int .i64 l, .int .i64 g] w
 fun e w' => e = .returned (.agg #[.int .i64 16, .int .i64 d, .int .i64 l, .int .i64 g, .bool false]) ∧ Below w.heap.size w w' := by
 have I := Inv.start w [] True.intro
 refine a0g [.v (.int .i64 d), .v (.int .i64 l), .v (.int .i64 g)] I Tryz.func83 ?_
 exact zrb I
def s1l : Value := .agg #[.int .i64 0, .int .i64 0, .int .i64 0, .int .i64 0, .int .i64 0, .int .i64 0, .int .i64 0, .bool false, .bool false, .bool false, .bool false, .nilFunc]
theorem h0k (n : Int) (hn : IsFm n) (w : World) : Calls Tryz.prog 37 #[.int .i64 n] w
 fun e w' => e = .returned (.tuple #[.agg #[.int .i64 (((fmt n).size : Nat) : Int), .int .i64 (((fmt n).E : Nat) : Int), .int .i64 (((fmt n).F : Nat) : Int), .int .i64 (fmt n).g.rad, .int .i64 (fmt n).g.digs, .int .i64 (fmt n).g.lo, .int .i64 (fmt n).g.hi, .bool (fmt n).g.grad, .bool (fmt n).hid, .bool (fmt n).inf, .bool (fmt n).res, .func (.func (ordF (fmt n))) #[] #[]], .int .i64 0]) ∧ Below w.heap.size w w' := by
 rcases l0u hn with rfl | rfl | rfl | rfl | rfl | rfl | rfl | rfl
 · have I := Inv.start w [] True.intro
   refine a0g [.v (.int .i64 1)] I Tryz.func37 ?_
   refine zq I (fun Al W I => f0x 24 (-149) 104 true W) fun Al W I => zret I (v := fun Al => .tuple #[.agg #[vI 4, vI 8, vI 23, vI 2, vI 24, vI (-149), vI 104, .bool true, .bool true, .bool true, .bool false, .func (.func 81) #[] #[]], vI 0]) fun Al W I => ⟨by kernel_rfl, I.below⟩
 · have I := Inv.start w [] True.intro
   refine a0g [.v (.int .i64 2)] I Tryz.func37 ?_
   refine zq I (fun Al W I => f0x 53 (-1074) 971 true W) fun Al W I => zret I (v := fun Al => .tuple #[.agg #[vI 8, vI 11, vI 52, vI 2, vI 53, vI (-1074), vI 971, .bool true, .bool true, .bool true, .bool false, .func (.func 81) #[] #[]], vI 0]) fun Al W I => ⟨by kernel_rfl, I.below⟩
 · have I := Inv.start w [] True.intro
   refine a0g [.v (.int .i64 3)] I Tryz.func37 ?_
   refine zq I (fun Al W I => f0x 64 (-16445) 16320 true W) fun Al W I => zret I (v := fun Al => .tuple #[.agg #[vI 10, vI 15, vI 64, vI 2, vI 64, vI (-16445), vI 16320, .bool true, .bool false, .bool true, .bool false, .func (.func 82) #[] #[]], vI 0]) fun Al W I => ⟨by kernel_rfl, I.below⟩
 · have I := Inv.start w [] True.intro
   refine a0g [.v (.int .i64 4)] I Tryz.func37 ?_
   refine zq I (fun Al W I => v0v 6 (-70) 57 W) fun Al W I => zret I (v := fun Al => .tuple #[.agg #[vI 4, vI 7, vI 24, vI 16, vI 6, vI (-70), vI 57, .bool false, .bool false, .bool false, .bool false, .func (.func 81) #[] #[]], vI 0]) fun Al W I => ⟨by kernel_rfl, I.below⟩
 · have I := Inv.start w [] True.intro
   refine a0g [.v (.int .i64 5)] I Tryz.func37 ?_
   refine zq I (fun Al W I => v0v 14 (-78) 49 W) fun Al W I => zret I (v := fun Al => .tuple #[.agg #[vI 8, vI 7, vI 56, vI 16, vI 14, vI (-78), vI 49, .bool false, .bool false, .bool false, .bool false, .func (.func 81) #[] #[]], vI 0]) fun Al W I => ⟨by kernel_rfl, I.below⟩
 · have I := Inv.start w [] True.intro
   refine a0g [.v (.int .i64 6)] I Tryz.func37 ?_
   refine zq I (fun Al W I => f0x 24 (-151) 103 false W) fun Al W I => zret I (v := fun Al => .tuple #[.agg #[vI 4, vI 8, vI 23, vI 2, vI 24, vI (-151), vI 103, .bool false, .bool true, .bool false, .bool true, .func (.func 84) #[] #[]], vI 0]) fun Al W I => ⟨by kernel_rfl, I.below⟩
 · have I := Inv.start w [] True.intro
   refine a0g [.v (.int .i64 7)] I Tryz.func37 ?_
   refine zq I (fun Al W I => f0x 56 (-183) 71 false W) fun Al W I => zret I (v := fun Al => .tuple #[.agg #[vI 8, vI 8, vI 55, vI 2, vI 56, vI (-183), vI 71, .bool false, .bool true, .bool false, .bool true, .func (.func 84) #[] #[]], vI 0]) fun Al W I => ⟨by kernel_rfl, I.below⟩
 · have I := Inv.start w [] True.intro
   refine a0g [.v (.int .i64 8)] I Tryz.func37 ?_
   refine zq I (fun Al W I => f0x 53 (-1076) 970 false W) fun Al W I => zret I (v := fun Al => .tuple #[.agg #[vI 8, vI 11, vI 52, vI 2, vI 53, vI (-1076), vI 970, .bool false, .bool true, .bool false, .bool true, .func (.func 84) #[] #[]], vI 0]) fun Al W I => ⟨by kernel_rfl, I.below⟩
theorem i0y (n : Int) (hn : ¬ IsFm n) (w : World) : Calls Tryz.prog 37 #[.int .i64 n] w
 fun e w' => e = .returned (.tuple #[s1l, .int .i64 6]) ∧ Below w.heap.size w w' := by
 unfold IsFm at hn
 have I := Inv.start w [] True.intro
 refine a0g [.v (.int .i64 n)] I Tryz.func37 ?_
 refine zb I 6 (n == 1) (false) (bFn (by omega)) fun Al W I => zb I 10 (n == 2) (false) (bFn (by omega)) fun Al W I => zb I 14 (n == 3) (false) (bFn (by omega)) fun Al W I => zb I 18 (n == 4) (false) (bFn (by omega)) fun Al W I => zb I 22 (n == 5) (false) (bFn (by omega)) fun Al W I => zb I 26 (n == 6) (false) (bFn (by omega)) fun Al W I => zb I 30 (n == 7) (false) (bFn (by omega)) fun Al W I => zb I 34 (n == 8) (false) (bFn (by omega)) fun Al W I => zret I (v := fun Al => .tuple #[.agg #[vI 0, vI 0, vI 0, vI 0, vI 0, vI 0, vI 0, .bool false, .bool false, .bool false, .bool false, .nilFunc], vI 6]) fun Al W I => ⟨by kernel_rfl, I.below⟩
theorem g1i (x : Nat) (h : x < 4294967296) : x / 2147483648 = (x.testBit 31).toNat := by
 rw [Nat.toNat_testBit]; omega
theorem t0p (x : Nat) (h : x < 4294967296) : x.testBit 31 = decide (2147483648 ≤ x) := by
 have := g1i x h
 cases hb : x.testBit 31 <;> rw [hb] at this <;> simp at this <;> simp <;> omega
theorem k1i (x y c : Nat) (hx : x < 4294967296) (hy : y < 4294967296) (hc : c ≤ 1) :
 (((4294967295 ^^^ x) &&& y) ||| ((4294967295 ^^^ (x ^^^ y)) &&& subD x y c)) / 2147483648 = subB x y c := by
 have hd : subD x y c < 4294967296 := Nat.mod_lt _ (by omega)
 have h1 : ((4294967295 ^^^ x) &&& y) ||| ((4294967295 ^^^ (x ^^^ y)) &&& subD x y c) < 2 ^ 32 :=
  Nat.or_lt_two_pow (Nat.and_lt_two_pow _ (by omega)) (Nat.and_lt_two_pow _ (by omega))
 rw [g1i _ (by omega)]
 simp only [Nat.testBit_or, Nat.testBit_and, Nat.testBit_xor]
 rw [t0p x hx, t0p y hy, t0p _ hd, show Nat.testBit 4294967295 31 = true by decide]
 by_cases b1 : 2147483648 ≤ x <;> by_cases b2 : 2147483648 ≤ y <;> by_cases b3 : 2147483648 ≤ subD x y c <;> simp [b1, b2, b3, subB] <;> unfold subD at b3 <;> first | omega | (split <;> omega)
theorem owed (x y c : Nat) (hx : x < 4294967296) (hy : y < 4294967296) (hc : c ≤ 1) (d : Int) (hd : d = (subD x y c : Nat)) :
 bits .or .u32 (bits .and .u32 (bits .xor .u32 IntKind.u32.max x) y) (bits .and .u32 (bits .xor .u32 IntKind.u32.max (bits .xor .u32 x y)) d) / 2147483648 = (subB x y c : Nat) := by
 subst hd
 have hdl : subD x y c < 4294967296 := Nat.mod_lt _ (by omega)
 have e : IntKind.u32.max = ((4294967295 : Nat) : Int) := by decide
 have l1 : 4294967295 ^^^ x < 2 ^ 32 := Nat.xor_lt_two_pow (by omega) (by omega)
 have l2 : x ^^^ y < 2 ^ 32 := Nat.xor_lt_two_pow (by omega) (by omega)
 have l3 : 4294967295 ^^^ (x ^^^ y) < 2 ^ 32 := Nat.xor_lt_two_pow (by omega) (by omega)
 rw [e, u32_xor_nat _ _ (by omega) (by omega), u32_xor_nat _ _ (by omega) (by omega), u32_xor_nat _ _ (by omega) (by omega), u32_and_nat _ _ (by omega) (by omega), u32_and_nat _ _ (by omega) (by omega)]
 have l4 : (4294967295 ^^^ x) &&& y < 2 ^ 32 := Nat.and_lt_two_pow _ (by omega)
 have l5 : (4294967295 ^^^ (x ^^^ y)) &&& subD x y c < 2 ^ 32 := Nat.and_lt_two_pow _ (by omega)
 rw [u32_or_nat _ _ (by omega) (by omega), ← k1i x y c hx hy hc]
 rfl
theorem l0y (x y c : Nat) (w : World) (hx : x < 4294967296) (hy : y < 4294967296) (hc : c ≤ 1) :
 Calls Tryz.prog 138 #[.int .u32 x, .int .u32 y, .int .u32 c] w fun e w' =>
  e = .returned (.tuple #[.int .u32 (subD x y c : Nat), .int .u32 (subB x y c : Nat)]) ∧ w = w' := by
 have hd : ((x : Int) - y - c) % 4294967296 = (subD x y c : Nat) := by unfold subD; omega
 have ho := hi0 (owed x y c hx hy hc _ hd)
 have hd := hi0 hd
 go_enter Tryz.func138, Tryz.ntmps138
 go_wp2
 go_ret2
 refine ⟨?_, rfl⟩
 rw [← ho.out, ← hd.out]
 rfl
theorem g0y {a b : Nat} {c : Int} (h : cmpN a b = c) : Ending.returned (.int .i64 c) = .returned (.int .i64 (cmpN a b)) := by rw [h]
theorem f0m (p q : OA) (n m c d : Nat) (a b : Nat) (w : World) (hp : Rd w .u32 p (dig B32 a)) (hq : Rd w .u32 q (dig B32 b)) (hn : n = (dig B32 a).length) (hm : m = (dig B32 b).length)
 (hl : (dig B32 a).length ≤ 1000000000) (hl2 : (dig B32 b).length ≤ 1000000000) :
 Calls Tryz.prog 44 #[.slice p n c, .slice q m d] w fun e w' => e = .returned (.int .i64 (cmpN a b)) ∧ Below w.heap.size w w' := by
 subst hn hm
 by_cases hlt : (dig B32 a).length < (dig B32 b).length
 · have H := hi0 (g0u (j0k a0a hlt))
   go_enter Tryz.func44, Tryz.ntmps44
   go_wp2
   go_ret
   exact ⟨g0y H.out, Below.refl _ _⟩
 · by_cases hgt : (dig B32 b).length < (dig B32 a).length
   · have H := hi0 (m0r (j0k a0a hgt))
     go_enter Tryz.func44, Tryz.ntmps44
     go_wp2
     go_ret
     exact ⟨g0y H.out, Below.refl _ _⟩
   · have hle : (dig B32 b).length = (dig B32 a).length := by omega
     have HXL := hi0 (b0d a0a a)
     have HYL := hi0 (b0d a0a b)
     have HA := hi0 (b0a a0a a)
     have HB := hi0 (b0a a0a b)
     rw [hle]
     have HL := hi0 hle
     have hly := Nat.le_of_eq hle.symm
     clear hlt hgt hle
     generalize dig B32 a = xs at *
     generalize dig B32 b = ys at *
     have hsx := hp.solid
     have hsy := hq.solid
     rw [HL.out] at hsy
     go_enter Tryz.func44, Tryz.ntmps44
     go_wp2
     go_loopw [5] (fun iv wr => ∃ (k : Nat), iv = .int .i64 ((k : Int) - 1) ∧ k ≤ xs.length ∧ Below w.heap.size w wr ∧ Hid (xs.drop k = ys.drop k)) (fun iv _ => (intOf iv + 1).toNat)
     case atStart => exact ⟨xs.length, rfl, Nat.le_refl _, Below.refl _ _, (show xs.drop _ = ys.drop _ by rw [List.drop_length, List.drop_of_length_le (by have := HL.out; omega)])⟩
     case round =>
      obtain ⟨k, rfl, hk, hb, HD⟩ := hrel
      by_cases h0 : 0 < k
      · obtain ⟨k, rfl⟩ : ∃ j, k = j + 1 := ⟨k - 1, by omega⟩
        have ej : ((k + 1 : Nat) : Int) - 1 = k := by omega
        rw [ej]
        have hxd := a0n (B := 4294967296) (by omega) xs HXL.out k
        have hyd := a0n (B := 4294967296) (by omega) ys HYL.out k
        have hc1 := (hp.past hb).cells k (by omega)
        have hc2 := (hq.past hb).cells k (by omega)
        have i1 : (k : Int) < (xs.length : Int) := by omega
        have i0 : (0 : Int) ≤ (k : Int) := by omega
        clear ej
        by_cases h1 : dg xs k < dg ys k
        · have H := hi0 (g0u (by have := s0i xs ys HXL.out k (by omega) HL.out.symm HD.out h1; rwa [HA.out, HB.out] at this))
          go_wp2_with fail
          go_quiet (fail)
          go_wp2_with fail
          go_quiet (fail)
          go_wp2
          go_ret
          exact ⟨g0y H.out, hb.trans (below_drewN (below_drewN (Below.refl _ _) _) _)⟩
        · by_cases h2 : dg ys k < dg xs k
          · have H := hi0 (m0r (by have := s0i ys xs HYL.out k (by have := HL.out; omega) HL.out HD.out.symm h2; rwa [HA.out, HB.out] at this))
            go_wp2_with fail
            go_quiet (fail)
            go_wp2_with fail
            go_quiet (fail)
            go_wp2
            go_ret
            exact ⟨g0y H.out, hb.trans (below_drewN (below_drewN (Below.refl _ _) _) _)⟩
          · have h3 : dg xs k = dg ys k := by omega
            have HE := hi0 (r0a (by omega) HL.out.symm HD.out h3)
            rw [← h3] at hc2
            clear h3 h1 h2
            go_wp2_with fail
            go_quiet (fail)
            go_wp2
            go_roundw
            case rel => exact ⟨k, rfl, by omega, hb.trans (below_drewN (Below.refl _ _) _), HE⟩
            case measure => first | (simp [intOf]; done) | (simp [intOf]; omega)
      · obtain rfl : k = 0 := by omega
        have H : cmpN a b = 0 := by
         have := HD.out
         simp only [List.drop_zero] at this
         rw [← HA.out, ← HB.out, this]; exact o0e _
        have H := hi0 H
        go_wp2
        go_ret
        exact ⟨g0y H.out, hb⟩
theorem y0l (x : Nat) (h : x < 2 ^ 64) : Lib.bitLen x = blen x := by
 induction x using Nat.strongRecOn with
 | _ x ih =>
  by_cases h0 : x = 0
  · subst h0; rw [l0b]; decide
  · rw [Lib.bitLen_half x h0 h, v0c x (by omega), ih (x / 2) (by omega) (by omega)]; omega
theorem v0w (x : Nat) (w : World) (h1 : x < 4294967296) :
 Calls Tryz.prog 85 #[.int .u32 x] w fun e w' => e = .returned (.int .i64 (blen x : Nat)) ∧ w = w' := by
 have h := g1h x w (by omega) (by omega)
 rw [Int.toNat_natCast, y0l x (by omega)] at h
 exact h
theorem i0z (p : OA) (n c : Nat) (a : Nat) (w : World) (hp : Rd w .u32 p (dig B32 a)) (hn : n = (dig B32 a).length) (hl : (dig B32 a).length ≤ 1000000000) :
 Calls Tryz.prog 40 #[.slice p n c] w fun e w' => e = .returned (.int .i64 (blen a : Nat)) ∧ w = w' := by
 subst hn
 by_cases h0 : 0 < a
 · obtain ⟨hb, ht⟩ := l0c (B := B32) (s := 32) (by decide) a0a a h0
   have hl0 : 0 < (dig B32 a).length := List.length_pos_iff.2 ((d0j a0a a).2.2.2 h0)
   have HB := hi0 hb
   have hd := a0n (B := 4294967296) (by omega) _ (b0d a0a a) ((dig B32 a).length - 1)
   clear hb
   generalize dig B32 a = xs at *
   have hs := hp.solid
   have hc := hp.cells (xs.length - 1) (by omega)
   have hbd : blen (dg xs (xs.length - 1)) ≤ 32 := (a0u _ 32).2 (by omega)
   generalize dg xs (xs.length - 1) = d at *
   go_enter Tryz.func40, Tryz.ntmps40
   go_wp2_with (go_at_call 85; refine (v0w d _ hd).mono ?_; rintro e w1 ⟨rfl, rfl⟩)
   go_ret
   rw [HB.out]
   exact ⟨g0t (by omega), rfl⟩
 · obtain rfl : a = 0 := by omega
   rw [l0b]
   rw [a0c] at *
   go_enter Tryz.func40, Tryz.ntmps40
   go_wp2
   go_ret
   exact ⟨rfl, rfl⟩
theorem p1k (p q : OA) (n m c d : Nat) (a b : Nat) (w : World) (hp : Rd w .u32 p (dig B32 a)) (hq : Rd w .u32 q (dig B32 b)) (hn : n = (dig B32 a).length) (hm : m = (dig B32 b).length)
 (hl : (dig B32 a).length ≤ 1000000000) (hab : b ≤ a) :
 Calls Tryz.prog 129 #[.slice p n c, .slice q m d] w (g0h w .u32 101 (dig B32 (a - b))) := by
 subst hn hm
 have hge := a0j a0a hab
 have H0 := hi0 (l0d.start a (dig B32 b))
 have HY := hi0 (b0d a0a b)
 have HV := hi0 (b0a a0a b)
 obtain ⟨xs, hxs⟩ : ∃ xs, xs = dig B32 a := ⟨_, rfl⟩
 rw [← hxs] at hp hl hge H0 ⊢
 clear hxs
 generalize dig B32 b = ys at *
 go_enter Tryz.func129, Tryz.ntmps129
 go_wp2_with (go_at_call 92; refine (i0n _ _ _ xs _ hp rfl hl).mono ?_; rintro e w1 ⟨p1, c1, rfl, ho1, hb1⟩)
 go_loopw [6, 13] (fun cv iv wr => ∃ (i cr : Nat) (L : List Nat), iv = .int .i64 i ∧ cv = .int .u32 cr ∧ i ≤ xs.length ∧ cr ≤ 1 ∧ L.length = xs.length ∧ Own wr w.heap.size .u32 101 p1 c1 L ∧ Below w.heap.size w wr ∧ Hid (l0d L ys i cr a))
  (fun _ iv _ => xs.length - (intOf iv).toNat)
 case atStart => exact ⟨0, 0, xs, rfl, rfl, Nat.zero_le _, by omega, rfl, ho1, hb1, H0⟩
 case round =>
  obtain ⟨i, cr, L, rfl, rfl, hi, hcr, hL, hoL, hbL, HR⟩ := hrel
  have hqL := hq.past hbL
  by_cases hlt : i < xs.length
  · have hc1 := hoL.rd.cells i (by omega)
    have hsL := hoL.solid
    rw [hL] at hsL
    have hLd := a0n (B := 4294967296) (by omega) L HR.out.1 i
    have hyd := a0n (B := 4294967296) (by omega) ys HY.out i
    have HS := hi0 (HR.out.step (i := i) (by omega) HY.out hcr)
    by_cases hd : i < ys.length
    · have hc2 := hqL.cells i hd
      have hsq := hqL.solid
      have HC' := s0j (dg L i) (dg ys i) cr
      go_wp2_with (first
        | (go_at_call 138; refine (l0y _ _ cr _ hLd hyd hcr).mono ?_; rintro e w2 ⟨rfl, rfl⟩)
        | (refine a0y rfl _ _ _ rfl 101 c0c _ _ _ _ hoL i (by omega) _ ?_ rfl rfl ?_; omega; intro w3 ho3 hg3 hb3))
      rw [Int.toNat_natCast] at ho3
      go_roundw
      case rel => exact ⟨i + 1, subB (dg L i) (dg ys i) cr, _, by go_num, rfl, hlt, HC', by simp [hL], ho3, hbL.trans hb3, HS⟩
      case measure => simp [intOf]; omega
    · by_cases hc0 : cr = 0
      · subst hc0
        have HD := hi0 (HR.out.done (by omega) HV.out hab (.inr rfl) (k0c B32 L HR.out.1))
        go_wp2_with (go_at_call 86; refine (f0p _ _ _ L _ hoL.rd hL.symm hoL.le_cap HR.out.1 (by omega)).mono ?_; rintro e w3 ⟨rfl, rfl⟩)
        go_ret
        have ht := b0c a0a L HR.out.1
        have ho2 := hoL.take (dig B32 (val B32 L)).length
        rw [ht, HD.out] at ho2
        rw [HD.out]
        exact ⟨p1, c1, rfl, ho2, hbL⟩
      · have hcp : 1 ≤ cr := by omega
        have ez : dg ys i = 0 := b0n (by omega)
        rw [ez] at HS
        have HC' := s0j (dg L i) 0 cr
        clear ez hyd hc0
        go_wp2_with (first
          | (go_at_call 138; refine (l0y _ 0 cr _ hLd (by omega) hcr).mono ?_; rintro e w2 ⟨rfl, rfl⟩)
          | (refine a0y rfl _ _ _ rfl 101 c0c _ _ _ _ hoL i (by omega) _ ?_ rfl rfl ?_; omega; intro w3 ho3 hg3 hb3))
        rw [Int.toNat_natCast] at ho3
        go_roundw
        case rel => exact ⟨i + 1, subB (dg L i) 0 cr, _, by go_num, rfl, hlt, HC', by simp [hL], ho3, hbL.trans hb3, HS⟩
        case measure => simp [intOf]; omega
  · obtain rfl : i = xs.length := by omega
    have HD := hi0 (HR.out.done hge HV.out hab (.inl (by omega)) (k0c B32 L HR.out.1))
    go_wp2_with (go_at_call 86; refine (f0p _ _ _ L _ hoL.rd hL.symm hoL.le_cap HR.out.1 (by omega)).mono ?_; rintro e w3 ⟨rfl, rfl⟩)
    go_ret
    have ht := b0c a0a L HR.out.1
    have ho2 := hoL.take (dig B32 (val B32 L)).length
    rw [ht, HD.out] at ho2
    rw [HD.out]
    exact ⟨p1, c1, rfl, ho2, hbL⟩
theorem v0x (x cr s : Nat) (hx : x < 4294967296) (hs : s < 32) (hc : cr < 2 ^ s) : x * 2 ^ s + cr < 18446744073709551616 := by
 have h1 : 2 ^ s ≤ 2 ^ 31 := Nat.pow_le_pow_right (by omega) (by omega)
 have h2 := Nat.mul_le_mul_right (2 ^ s) (show x + 1 ≤ 4294967296 from hx)
 rw [Nat.add_mul, Nat.one_mul] at h2
 omega
theorem s1m (x cr s : Nat) (hx : x < 4294967296) (hs : s < 32) (hc : cr < 2 ^ s) :
 bits .or .u64 (IntKind.u64.wrap ((x : Int) * 2 ^ s)) (cr : Int) = ((x * 2 ^ s + cr : Nat) : Int) := by
 have hlt := v0x x cr s hx hs hc
 have e : (x : Int) * 2 ^ s = ((x * 2 ^ s : Nat) : Int) := by simp
 rw [e, IntWalk.u64_in _ (by omega), u64_or_nat _ _ (by omega) (by omega), nat_join s _ _ (Nat.mul_mod_left _ _) hc]
theorem n0b (p : OA) (n c : Nat) (a N : Nat) (w : World) (hp : Rd w .u32 p (dig B32 a)) (hn : n = (dig B32 a).length) (hl : (dig B32 a).length ≤ 1000000000) (hN : N ≤ 1000000000) :
 Calls Tryz.prog 42 #[.slice p n c, .int .i64 N] w (g0h w .u32 101 (dig B32 (a * 2 ^ N))) := by
 subst hn
 by_cases h0 : (dig B32 a).length = 0
 · have : a = 0 := (a0f a0a a).1 h0
   subst this
   rw [Nat.zero_mul]
   rw [a0c] at *
   go_enter Tryz.func42, Tryz.ntmps42
   go_wp2
   go_ret
   exact ⟨none, 0, rfl, Own.nil _ _ _ _, Below.refl _ _⟩
 · have HXL := hi0 (b0d a0a a)
   have HA := hi0 (b0a a0a a)
   generalize dig B32 a = xs at *
   have hsx := hp.solid
   have hlen : 1 ≤ xs.length := by omega
   clear h0
   have hs : N % 32 < 32 := Nat.mod_lt _ (by omega)
   have H0 := hi0 (l0e.start (k := N / 32) (p := 2 ^ (N % 32)) c0n (Nat.pow_pos (by omega)) xs)
   go_enter Tryz.func42, Tryz.ntmps42
   go_wp2_with (refine e1x rfl _ _ _ rfl c0c .i64 .i64 (N / 32) (N / 32 + xs.length + 1) _ _ rfl rfl ?_ ?_ ?_ ?_ ?_; omega; omega; omega; omega; intro p1 c1 w1 ho1 hb1 hz1)
   go_loopg [5, 7, 27] (xs.length) (fun g ov cv iv wr => ∃ (i cr : Nat) (t : OA) (e : Nat) (O : List Nat), iv = .int .i64 i ∧ cv = .int .u32 cr ∧ ov = .slice t O.length e ∧ g + i = xs.length ∧ cr < 4294967296 ∧ i ≤ xs.length ∧ Hid (O.length = N / 32 + i) ∧
     Own wr w.heap.size .u32 101 t e O ∧ Below w.heap.size w wr ∧ Hid (l0e B32 (N / 32) (2 ^ (N % 32)) O xs i cr))
   case atStart => exact ⟨0, 0, p1, c1, _, rfl, rfl, by simp, by omega, by omega, by omega, List.length_replicate, ho1, hb1, H0⟩
   case round =>
    obtain ⟨i, cr, t, e, O, rfl, rfl, rfl, hg, hcr, hi, hO, hoq, hb, HR⟩ := hrel
    have hpL := hp.past hb
    have hxd := a0n (B := 4294967296) (by omega) xs HXL.out i
    by_cases h1 : i < xs.length
    · have hc1 := hpL.cells i h1
      obtain ⟨t, ht⟩ : ∃ t, t = dg xs i * 2 ^ (N % 32) + cr := ⟨_, rfl⟩
      have HS := hi0 (HR.out.step (by unfold B32; exact hxd) t ht)
      have hor := s1m (dg xs i) cr (N % 32) hxd hs HR.out.2.2.1
      have htb := v0x (dg xs i) cr (N % 32) hxd hs HR.out.2.2.1
      rw [← ht] at hor htb
      have hq : t / 4294967296 < 4294967296 := by omega
      clear ht hs H0
      go_wp2_with (first
        | (refine a0r rfl _ _ rfl c0c _ ?_ rfl ?_; omega; intro p2 w2 ho2 hb2 hz2 hp2)
        | (at_builtin; refine a0z rfl _ _ _ rfl c0c _ _ _ _ _ (hoq.past hb2) rfl _ _ _ _ ho2.rd rfl rfl rfl ?_ ?_ ?_; (have := hO.out; simp; omega); (have := hb2.size; have := hb.size; omega); intro p3 c3 w3 ho3 hg3 hb3 hn3))
      have hb4 := hb.trans ((hb2.mono hb.size).trans hb3)
      have e4 : ((t : Int) % 4294967296).toNat = t % B32 := by unfold B32; omega
      rw [e4] at ho3
      go_roundg (xs.length - 1 - i)
      case measure => omega
      case rel => exact ⟨i + 1, t / B32, p3, c3, _, by go_num, (by unfold B32; go_num), by simp, by omega, (by unfold B32; exact hq), by omega, (by show (O ++ _).length = _; have := hO.out; rw [List.length_append, List.length_singleton]; omega), ho3, hb4, HS⟩
    · obtain rfl : i = xs.length := by omega
      obtain ⟨hd1, hd2⟩ := HR.out.done (by have := Nat.pow_le_pow_right (show 0 < 2 by omega) (Nat.le_of_lt hs); exact this) HA.out
      rw [o0g (B := B32) (w := 32) (by decide) N] at hd2
      have HD := hi0 hd1
      have HV := hi0 hd2
      clear hd1 hd2 hs H0
      go_wp2_with (first
        | (refine a0r rfl _ _ rfl c0c _ ?_ rfl ?_; omega; intro p2 w2 ho2 hb2 hz2 hp2)
        | (at_builtin; refine a0z rfl _ _ _ rfl c0c _ _ _ _ _ (hoq.past hb2) rfl _ _ _ _ ho2.rd rfl rfl rfl ?_ ?_ ?_; (have := hO.out; simp; omega); (have := hb2.size; have := hb.size; omega); intro p3 c3 w3 ho3 hg3 hb3 hn3)
        | (go_at_call 86; rw [Int.toNat_natCast] at ho3; refine (f0p _ _ _ (O ++ [cr]) _ ho3.rd (by simp) ho3.le_cap HD.out (by have := hO.out; rw [List.length_append, List.length_singleton]; omega)).mono ?_; rintro e w4 ⟨rfl, rfl⟩))
      go_ret
      have ht := b0c a0a _ HD.out
      have ho4 := ho3.take (dig B32 (val B32 (O ++ [cr]))).length
      rw [ht, HV.out] at ho4
      rw [HV.out]
      exact ⟨p3, _, rfl, ho4, hb.trans ((hb2.mono hb.size).trans hb3)⟩
theorem s1n (x y s : Nat) (hx : x < 4294967296) (hs : s < 32) (h0 : 0 < s) :
 bits .or .u32 ((x / 2 ^ s : Nat) : Int) ((y : Int) * 2 ^ (32 - s) % 4294967296) = ((x / 2 ^ s + y % 2 ^ s * (4294967296 / 2 ^ s) : Nat) : Int) := by
 have e0 : 4294967296 = 2 ^ s * 2 ^ (32 - s) := by rw [← Nat.pow_add, show s + (32 - s) = 32 by omega]
 have e1 : 4294967296 / 2 ^ s = 2 ^ (32 - s) := by rw [e0, Nat.mul_div_cancel_left _ (Nat.pow_pos (by omega))]
 have e2 : (y : Int) * 2 ^ (32 - s) % 4294967296 = ((y % 2 ^ s * 2 ^ (32 - s) : Nat) : Int) := by
  have : y * 2 ^ (32 - s) % 4294967296 = y % 2 ^ s * 2 ^ (32 - s) := by rw [e0, Nat.mul_mod_mul_right]
  rw [← this]; simp
 have hp : 0 < 2 ^ s := Nat.pow_pos (by omega)
 have h1 : x / 2 ^ s < 2 ^ (32 - s) := by rw [Nat.div_lt_iff_lt_mul hp, Nat.mul_comm, ← e0]; exact hx
 have h2 : y % 2 ^ s * 2 ^ (32 - s) < 4294967296 := by
  rw [e0]; exact Nat.mul_lt_mul_of_pos_right (Nat.mod_lt _ hp) (Nat.pow_pos (by omega))
 have h3 : x / 2 ^ s < 4294967296 := Nat.lt_of_le_of_lt (Nat.div_le_self _ _) hx
 rw [e1, e2, u32_or_nat _ _ h3 h2, Nat.or_comm, nat_join (32 - s) _ _ (Nat.mul_mod_left _ _) h1, Nat.add_comm]
theorem k1j {L Y : List Nat} {N a : Nat} (h : k0g B32 (2 ^ (N % 32)) L Y Y.length) (hY : val B32 Y = a / B32 ^ (N / 32)) : val B32 L = a / 2 ^ N := by
 rw [h.done, hY, o0f (B := B32) (w := 32) (by decide)]
theorem y0m (p : OA) (n c : Nat) (a N : Nat) (w : World) (hp : Rd w .u32 p (dig B32 a)) (hn : n = (dig B32 a).length) (hc : (dig B32 a).length ≤ c) (hl : (dig B32 a).length ≤ 1000000000) (hN : N ≤ 1000000000) :
 Calls Tryz.prog 105 #[.slice p n c, .int .i64 N] w (g0h w .u32 101 (dig B32 (a / 2 ^ N))) := by
 subst hn
 by_cases h0 : (dig B32 a).length ≤ N / 32
 · rw [r0b (w := 32) (by decide) a0a a N h0]
   rw [a0c]
   go_enter Tryz.func105, Tryz.ntmps105
   go_wp2
   go_ret
   exact ⟨none, 0, rfl, Own.nil _ _ _ _, Below.refl _ _⟩
 · have HXL := hi0 (b0d a0a a)
   have HV := hi0 (i0p (B := B32) c0n _ (b0d a0a a) (N / 32))
   rw [b0a a0a] at HV
   generalize dig B32 a = xs at *
   have hsx := hp.solid
   have hk : N / 32 < xs.length := by omega
   have hq := hp.drop (N / 32)
   have HY := hi0 (show ∀ x ∈ xs.drop (N / 32), x < B32 from fun x h => HXL.out x (List.mem_of_mem_drop h))
   have hyl : (xs.drop (N / 32)).length = xs.length - N / 32 := List.length_drop
   have hylp : 0 < (xs.drop (N / 32)).length := by omega
   have hyl1 : (xs.drop (N / 32)).length ≤ 1000000000 := by omega
   have eN : ((N : Int) / 32).toNat = N / 32 := by omega
   clear h0
   have hs : N % 32 < 32 := Nat.mod_lt _ (by omega)
   generalize hY : xs.drop (N / 32) = ys at *
   clear hY
   have HL := hi0 hyl
   clear hyl
   have hpm : B32 % 2 ^ (N % 32) = 0 := n0h (w := 32) (by omega)
   have hpm := hi0 hpm
   have H0 := hi0 (k0g.start (p := 2 ^ (N % 32)) HY.out)
   go_enter Tryz.func105, Tryz.ntmps105
   go_wp2_with (go_at_call 92; refine (i0n _ _ _ ys _ hq HL.out.symm hyl1).mono ?_; rintro e w1 ⟨p1, c1, rfl, ho1, hb1⟩)
   go_loopw [22] (fun iv wr => ∃ (i : Nat) (L : List Nat), iv = .int .i64 i ∧ i ≤ ys.length ∧ L.length = ys.length ∧ Own wr w.heap.size .u32 101 p1 c1 L ∧ Below w.heap.size w wr ∧ Hid (k0g B32 (2 ^ (N % 32)) L ys i))
    (fun iv _ => ys.length - (intOf iv).toNat)
   case atStart => exact ⟨0, ys, rfl, Nat.zero_le _, rfl, ho1, hb1, H0⟩
   case round =>
    obtain ⟨i, L, rfl, hi, hL, hoL, hb, HR⟩ := hrel
    by_cases hlt : i < ys.length
    · have hc1 := hoL.rd.cells i (by omega)
      have hsL := hoL.solid
      rw [hL] at hsL
      rw [HR.out.2.2.1 i (Nat.le_refl _)] at hc1
      have hyd := a0n (B := 4294967296) (by omega) ys HY.out i
      have hyd2 := a0n (B := 4294967296) (by omega) ys HY.out (i + 1)
      obtain ⟨v, hv⟩ : ∃ v, v = dg ys i / 2 ^ (N % 32) := ⟨_, rfl⟩
      have ev : ((dg ys i : Nat) : Int) / 2 ^ (N % 32) = (v : Nat) := by rw [hv]; simp
      have hvd : v < 4294967296 := by rw [hv]; exact Nat.lt_of_le_of_lt (Nat.div_le_self _ _) hyd
      by_cases h2 : i + 1 < ys.length ∧ 0 < N % 32
      · obtain ⟨h2, h3⟩ := h2
        obtain ⟨u, hu⟩ : ∃ u, u = dg ys i / 2 ^ (N % 32) + dg ys (i + 1) % 2 ^ (N % 32) * (B32 / 2 ^ (N % 32)) := ⟨_, rfl⟩
        have HS := hi0 (HR.out.step (Nat.pow_pos (by omega)) hpm.out HY.out hlt u hu)
        have hor := s1n (dg ys i) (dg ys (i + 1)) (N % 32) hyd hs h3
        rw [show B32 = 4294967296 from rfl] at hu
        rw [← hu, ← hv] at hor
        have huB : u < 4294967296 := by rw [hu]; exact z0y (Nat.pow_pos (by omega)) hpm.out hyd
        clear hu hv
        go_wp2_with (refine a0y rfl _ _ _ rfl 101 c0c _ _ _ _ hoL i (by omega) _ ?_ rfl rfl ?_; omega; intro w3 ho3 hg3 hb3)
        rw [ev, Int.toNat_natCast] at ho3
        have hlv : (L.set i v).length = ys.length := by simp [hL]
        have hcA := ho3.rd.cells i (by omega)
        have hcB := ho3.rd.cells (i + 1) (by omega)
        rw [b0p (by omega)] at hcA
        rw [b0r (by omega), HR.out.2.2.1 (i + 1) (by omega)] at hcB
        have hfr := e0q ho3 i (by omega)
        go_region
        obtain ⟨ho4, hg4, hb4⟩ := f0t ho3 i (by omega) u
        rw [List.set_set] at ho4
        have hs3 := hb.trans hb3
        have hb5 := hs3.trans (c0i hg4 hs3.size (fun j hj => by cases hj; exact hb4))
        have ho4 := ho4.drew
        have hb5 := hb5.drew
        clear hcA hcB hfr hor hg4 hb4
        generalize (w3.setCell (at_ p1 i) (.int .u32 (u : Int))).drew = w4 at ho4 hb5 ⊢
        go_wp2
        go_roundw
        case rel => exact ⟨i + 1, _, by go_num, by omega, by simp [hL], ho4, hb5, HS⟩
        case measure => simp [intOf]; omega
      · have HS := hi0 (HR.out.step (Nat.pow_pos (by omega)) hpm.out HY.out hlt v (by
          rw [hv]
          by_cases h3 : N % 32 = 0
          · rw [h3, Nat.pow_zero, Nat.mod_one, Nat.zero_mul]; rfl
          · rw [b0n (show ys.length ≤ i + 1 by omega), Nat.zero_mod, Nat.zero_mul]; rfl))
        clear hv
        by_cases h3 : i + 1 < ys.length
        · have h4 : N % 32 ≤ 0 := by omega
          clear h2
          go_wp2_with (refine a0y rfl _ _ _ rfl 101 c0c _ _ _ _ hoL i (by omega) _ ?_ rfl rfl ?_; omega; intro w3 ho3 hg3 hb3)
          rw [ev, Int.toNat_natCast] at ho3
          go_roundw
          case rel => exact ⟨i + 1, _, by go_num, by omega, by simp [hL], ho3, hb.trans hb3, HS⟩
          case measure => simp [intOf]; omega
        · clear h2
          go_wp2_with (refine a0y rfl _ _ _ rfl 101 c0c _ _ _ _ hoL i (by omega) _ ?_ rfl rfl ?_; omega; intro w3 ho3 hg3 hb3)
          rw [ev, Int.toNat_natCast] at ho3
          go_roundw
          case rel => exact ⟨i + 1, _, by go_num, by omega, by simp [hL], ho3, hb.trans hb3, HS⟩
          case measure => simp [intOf]; omega
    · obtain rfl : i = ys.length := by omega
      have HD := hi0 (k1j HR.out HV.out)
      have HX := hi0 HR.out.1
      go_wp2_with (go_at_call 86; refine (f0p _ _ _ L _ hoL.rd hL.symm hoL.le_cap HX.out (by omega)).mono ?_; rintro e w3 ⟨rfl, rfl⟩)
      go_ret
      have ht := b0c a0a L HX.out
      have ho2 := hoL.take (dig B32 (val B32 L)).length
      rw [ht, HD.out] at ho2
      rw [HD.out]
      exact ⟨p1, c1, rfl, ho2, hb⟩
def i0c (O : List Nat) (u N : Nat) : Prop := O ++ dig B32 u = dig B32 N
theorem i0c.len {O : List Nat} {u N : Nat} (h : i0c O u N) : O.length ≤ (dig B32 N).length := by
 have := congrArg List.length h
 simp at this; omega
theorem i0c.step {O : List Nat} {u N : Nat} (h : i0c O u N) (h0 : 0 < u) : i0c (O ++ [u % 4294967296]) (u / 4294967296) N := by
 unfold i0c at *
 rw [c0d a0a h0] at h
 rw [← h]
 simp [B32]
theorem n1n (N : Nat) (w : World) (hN : N < 9223372036854775808) : Calls Tryz.prog 38 #[.int .i64 N] w (g0h w .u32 101 (dig B32 N)) := by
 have hl : (dig B32 N).length ≤ 2 := (a0h a0a N 2).2 (by unfold B32; omega)
 go_enter Tryz.func38, Tryz.ntmps38
 go_wp2
 go_loopw [3, 4] (fun av uv wr => ∃ (u : Nat) (t : OA) (e : Nat) (O : List Nat), uv = .int .u64 u ∧ av = .slice t O.length e ∧ u ≤ N ∧ Own wr w.heap.size .u32 101 t e O ∧ Below w.heap.size w wr ∧ Hid (i0c O u N))
  (fun _ uv _ => (intOf uv).toNat)
 case atStart => exact ⟨N, none, 0, [], by go_num, rfl, Nat.le_refl _, Own.nil _ _ _ _, Below.refl _ _, (show i0c [] N N from rfl)⟩
 case round =>
  obtain ⟨u, t, e, O, rfl, rfl, hu, hoO, hb, HR⟩ := hrel
  have hOl : O.length ≤ 2 := Nat.le_trans HR.out.len hl
  by_cases h0 : 0 < u
  · have HS := hi0 (HR.out.step h0)
    go_wp2_with (first
      | (refine a0r rfl _ _ rfl c0c _ ?_ rfl ?_; omega; intro p2 w2 ho2 hb2 hz2 hp2)
      | (at_builtin; refine a0z rfl _ _ _ rfl c0c _ _ _ _ _ (hoO.past hb2) rfl _ _ _ _ ho2.rd rfl rfl rfl ?_ ?_ ?_; (simp; omega); (have := hb2.size; have := hb.size; omega); intro p3 c3 w3 ho3 hg3 hb3 hn3))
    have e4 : ((u : Int) % 4294967296).toNat = u % 4294967296 := by omega
    rw [e4] at ho3
    have hb4 := hb.trans ((hb2.mono hb.size).trans hb3)
    go_roundw
    case rel => exact ⟨u / 4294967296, p3, c3, _, by go_num, by simp, by omega, ho3, hb4, HS⟩
    case measure => simp [intOf]; omega
  · obtain rfl : u = 0 := by omega
    go_wp2
    go_ret
    have := HR.out
    unfold i0c at this
    rw [a0c, List.append_nil] at this
    rw [← this]
    exact ⟨t, e, rfl, hoO, hb⟩
structure Box3 (w : World) (b : Nat) (v0 v1 v2 : Value) : Prop where
 c0 : w.cell? ⟨b, 0, none⟩ = some v0
 c1 : w.cell? ⟨b, 1, none⟩ = some v1
 c2 : w.cell? ⟨b, 2, none⟩ = some v2
 f0 : w.frozen? ⟨b, 0, none⟩ = false
 f1 : w.frozen? ⟨b, 1, none⟩ = false
 f2 : w.frozen? ⟨b, 2, none⟩ = false
 lt : b < w.heap.size
theorem Box3.past {w w' : World} {b : Nat} {v0 v1 v2 : Value} (h : Box3 w b v0 v1 v2) (hb : Below w.heap.size w w') : Box3 w' b v0 v1 v2 :=
 ⟨by rw [Below.cell hb h.lt]; exact h.c0, by rw [Below.cell hb h.lt]; exact h.c1, by rw [Below.cell hb h.lt]; exact h.c2,
  by rw [Below.frozen hb h.lt]; exact h.f0, by rw [Below.frozen hb h.lt]; exact h.f1, by rw [Below.frozen hb h.lt]; exact h.f2, Nat.lt_of_lt_of_le h.lt hb.size⟩
theorem Box3.drew {w : World} {b : Nat} {v0 v1 v2 : Value} (h : Box3 w b v0 v1 v2) : Box3 w.drew b v0 v1 v2 := ⟨h.c0, h.c1, h.c2, h.f0, h.f1, h.f2, h.lt⟩
theorem d0n (w : World) (v0 v1 v2 : Value) (t : TypeId) : Box3 (w.alloc (.cells #[v0, v1, v2] t)) w.heap.size v0 v1 v2 :=
 ⟨by simp [go_sem], by simp [go_sem], by simp [go_sem], by simp [go_sem], by simp [go_sem], by simp [go_sem], by simp⟩
def p0e (w : World) (base : Nat) (d : Dv) (en : Ending) (w' : World) : Prop :=
 ∃ p c, en = .returned (.agg #[.bool d.neg, .slice p (dig B32 d.m).length c, .int .i64 d.e]) ∧ Own w' base .u32 101 p c (dig B32 d.m) ∧ Below w.heap.size w w'
theorem t0q (g : Bool) (p : OA) (c : Nat) (e : Int) (w : World) :
 Calls Tryz.prog 177 #[.agg #[.bool g, .slice p 0 c, .int .i64 e]] w (p0e w w.heap.size ⟨false, 0, 0⟩) := by
 go_enter Tryz.func177, Tryz.ntmps177
 go_wp2
 refine bodyPost_ret (v := .agg #[.bool false, .slice none 0 0, .int .i64 0]) (by simp [results, Tryz.results177, go_sem]) rfl ?_
 exact ⟨none, 0, by rw [a0c]; rfl, by rw [a0c]; exact Own.nil _ _ _ _, ((Below.refl _ _).alloc (Nat.le_refl _) _).alloc (by simp) _⟩
theorem v0y (g : Bool) (p : OA) (n c : Nat) (e : Int) (m : Nat) (w : World) (hp : Rd w .u32 p (dig B32 m)) (hn : n = (dig B32 m).length) (hc : n ≤ c) (hl : (dig B32 m).length ≤ 10000000) (h0 : 0 < m)
 (he : -1000000000 ≤ e ∧ e ≤ 1000000000) (hT : TabW w) :
 Calls Tryz.prog 177 #[.agg #[.bool g, .slice p n c, .int .i64 e]] w (p0e w w.heap.size (bare ⟨g, m, e⟩)) := by
 subst hn
 have hl0 : 0 < (dig B32 m).length := by
  have := a0f a0a m
  omega
 have t1 : (((dig B32 m).length : Int) == 0) = false := bFn (by omega)
 go_enter Tryz.func177, Tryz.ntmps177
 go_wp2_with fail
 refine (l0h p _ c m _ ((hp.laid _).laid _) rfl (by omega) ((hT.laid _).laid _)).mono ?_
 rintro e1 w1 ⟨rfl, rfl⟩
 have htz : tz m ≤ 1000000000 := by have := f0u h0; have := c0o m; omega
 have HB := hi0 (n0y (g := g) (e := e) h0)
 obtain ⟨t, ht⟩ : ∃ t, tz m = t := ⟨_, rfl⟩
 have HT := hi0 ht
 rw [ht] at htz HB ⊢
 clear ht
 go_wp2_with fail
 have B1 := (d0n w (.bool g) (.slice p (dig B32 m).length c) (.int .i64 e) 202).past ((Below.refl _ _).alloc (Nat.le_refl _) (.cells #[.bool false, .slice none 0 0, .int .i64 0] 202))
 have B2 := d0n (w.alloc (.cells #[.bool g, .slice p (dig B32 m).length c, .int .i64 e] 202)) (.bool false) (.slice none 0 0) (.int .i64 0) 202
 have hp1 := (hp.laid (.cells #[.bool g, .slice p (dig B32 m).length c, .int .i64 e] 202)).laid (.cells #[.bool false, .slice none 0 0, .int .i64 0] 202)
 have hs1 : Below w.heap.size w ((w.alloc (.cells #[.bool g, .slice p (dig B32 m).length c, .int .i64 e] 202)).alloc (.cells #[.bool false, .slice none 0 0, .int .i64 0] 202)) := ((Below.refl _ _).alloc (Nat.le_refl _) _).alloc (by simp) _
 have ez : (w.alloc (.cells #[.bool g, .slice p (dig B32 m).length c, .int .i64 e] 202)).heap.size = w.heap.size + 1 := by simp
 rw [ez] at B2
 clear ez
 generalize (w.alloc (.cells #[.bool g, .slice p (dig B32 m).length c, .int .i64 e] 202)).alloc (.cells #[.bool false, .slice none 0 0, .int .i64 0] 202) = W1 at *
 have e1 : IntKind.i64.wrap (e + (t : Int)) = e + (t : Int) := iwo
 go_region_held3 (fun w' => w'.cell? ⟨w.heap.size, 0, none⟩ = some (.bool g) ∧ w'.cell? ⟨w.heap.size, 1, none⟩ = some (.slice p (dig B32 m).length c) ∧ w'.cell? ⟨w.heap.size, 2, none⟩ = some (.int .i64 e))
  (first | exact ⟨B1.c0, B1.c1, B1.c2⟩
         | (have D1 := B1.drew; exact ⟨D1.c0, D1.c1, D1.c2⟩)
         | (have D1 := B1.drew.past hb2; exact ⟨D1.c0, D1.c1, D1.c2⟩)
         | go_keep)
  (first | (go_at_call 105; refine (y0m p _ c m t _ hp1.drew rfl hc (by clear e1; omega) (by clear e1; omega)).mono ?_; rintro e2 w2 ⟨p2, c2, rfl, ho2, hb2⟩; obtain ⟨d0, d1, d2, f0, f1, f2, dlt⟩ := B2.drew.past hb2))
 all_goals (go_wp2_with fail)
 refine bodyPost_ret (v := .agg #[.bool g, .slice p2 (dig B32 (m / 2 ^ t)).length c2, .int .i64 (e + (t : Int))]) (by simp [results, Tryz.results177, go_sem, d0, d1, d2]) rfl ?_
 rw [HB.out]
 clear e1
 have hs2 := hs1.drew.trans (hb2.mono hs1.size)
 have hz := B2.lt
 refine ⟨p2, c2, rfl, (ho2.mono hs1.size).same (fun h => ?_), ((hs2.setCell (by simp) _).setCell (by simp) _).setCell (by simp) _⟩
 have hk := (ho2.blk_lt h).1
 have hne : blk p2 ≠ w.heap.size + 1 := by
  have : W1.drew.heap.size = W1.heap.size := rfl
  omega
 rw [Below.heap_setCell _ _ _ _ hne, Below.heap_setCell _ _ _ _ hne, Below.heap_setCell _ _ _ _ hne]
theorem y0n (g : Bool) (p : OA) (n c : Nat) (e : Int) (m : Nat) (w : World) (hp : Rd w .u32 p (dig B32 m)) (hn : n = (dig B32 m).length) (hc : n ≤ c) (hl : (dig B32 m).length ≤ 10000000)
 (he : -1000000000 ≤ e ∧ e ≤ 1000000000) (hT : TabW w) :
 Calls Tryz.prog 177 #[.agg #[.bool g, .slice p n c, .int .i64 e]] w (p0e w w.heap.size (bare ⟨g, m, e⟩)) := by
 by_cases h0 : m = 0
 · subst h0
   rw [a0c] at hn
   subst hn
   exact t0q g p c e w
 · exact v0y g p n c e m w hp hn hc hl (by omega) he hT
theorem v0z (g : Bool) (p : OA) (n c : Nat) (e : Int) (m : Nat) (w : World) (hn : n = (dig B32 m).length) :
 Calls Tryz.prog 157 #[.agg #[.bool g, .slice p n c, .int .i64 e]] w fun en w' => en = .returned (.int .i64 (o0i ⟨g, m, e⟩)) ∧ Below w.heap.size w w' := by
 have hb : Below w.heap.size w (w.alloc (.cells #[.bool g, .slice p n c, .int .i64 e] 202)) := (Below.refl _ _).alloc (Nat.le_refl _) _
 by_cases h0 : m = 0
 · subst h0
   rw [a0c] at hn
   subst hn
   go_enter Tryz.func157, Tryz.ntmps157
   go_wp2
   go_ret
   exact ⟨rfl, hb⟩
 · have hl0 : 0 < n := by
    have := a0f a0a m
    omega
   have t1 : ((n : Int) == 0) = false := bFn (by omega)
   have hs : o0i ⟨g, m, e⟩ = if g then -1 else 1 := by unfold o0i; rw [if_neg h0]
   rw [hs]
   clear hn h0 hs
   cases g
   · go_enter Tryz.func157, Tryz.ntmps157
     go_wp2
     go_ret
     exact ⟨rfl, hb⟩
   · go_enter Tryz.func157, Tryz.ntmps157
     go_wp2
     go_ret
     exact ⟨rfl, hb⟩
theorem k1k {L xs ys : List Nat} {i k cr : Nat} (h : m0o B32 L xs ys i k cr) (hc : cr < 4294967296) (hx : dg xs i < 4294967296) (hy : dg ys k < 4294967296) :
 (dg xs i * dg ys k + dg L (i + k) + cr) / 4294967296 < 4294967296 := by
 have := h.carry (by unfold B32; omega) (by unfold B32; omega) (by unfold B32; omega)
 unfold B32 at this
 omega
theorem y0o {x y : Nat} (hx : x < 4294967296) (hy : y < 4294967296) : (x : Int) * y ≤ 18446744065119617025 ∧ 0 ≤ (x : Int) * y := by
 have h : x * y ≤ 4294967295 * 4294967295 := Nat.mul_le_mul (by omega) (by omega)
 have e : (x : Int) * y = ((x * y : Nat) : Int) := by simp
 rw [e]; omega
theorem g1j {p q : OA} {n m c d : Nat} (w : World) (h : n = 0 ∨ m = 0) :
 Calls Tryz.prog 55 #[.slice p n c, .slice q m d] w (g0h w .u32 101 []) := by
 rcases h with rfl | rfl
 · go_enter Tryz.func55, Tryz.ntmps55
   go_wp2
   go_ret
   exact ⟨none, 0, rfl, Own.nil _ _ _ _, Below.refl _ _⟩
 · by_cases hn : n = 0
   · subst hn
     go_enter Tryz.func55, Tryz.ntmps55
     go_wp2
     go_ret
     exact ⟨none, 0, rfl, Own.nil _ _ _ _, Below.refl _ _⟩
   · have h1 : ((n : Int) == 0) = false := bFn (by omega)
     go_enter Tryz.func55, Tryz.ntmps55
     go_wp2
     go_ret
     exact ⟨none, 0, rfl, Own.nil _ _ _ _, Below.refl _ _⟩
theorem mul_pos (p q : OA) (n m c d : Nat) (a b : Nat) (w : World) (xs ys : List Nat) (hxs : xs = dig B32 a) (hys : ys = dig B32 b) (hp : Rd w .u32 p xs) (hq : Rd w .u32 q ys) (hn : n = xs.length) (hm : m = ys.length)
 (h1 : 0 < xs.length) (h2 : 0 < ys.length) (hl : xs.length + ys.length ≤ 1000000000) :
 Calls Tryz.prog 55 #[.slice p n c, .slice q m d] w (g0h w .u32 101 (dig B32 (a * b))) := by
 subst hn hm
 have HA := hi0 (show val B32 xs = a by rw [hxs]; exact b0a a0a a)
 have HB := hi0 (show val B32 ys = b by rw [hys]; exact b0a a0a b)
 have HXL := hi0 (show ∀ x ∈ xs, x < B32 by rw [hxs]; exact b0d a0a a)
 have HYL := hi0 (show ∀ x ∈ ys, x < B32 by rw [hys]; exact b0d a0a b)
 clear hxs hys
 have hsx := hp.solid
 have hsy := hq.solid
 have t1 : ((xs.length : Int) == 0) = false := bFn (by omega)
 have t2 : ((ys.length : Int) == 0) = false := bFn (by omega)
 go_enter Tryz.func55, Tryz.ntmps55
 go_wp2_with (refine h0s rfl _ _ _ rfl c0c _ _ (xs.length + ys.length) _ _ rfl rfl ?_ ?_ ?_ ?_; omega; omega; omega; intro p1 c1 w1 ho1 hb1 hz1)
 clear t1 t2
 go_loopw [28] (fun iv wr => ∃ (i : Nat) (L : List Nat), iv = .int .i64 i ∧ i ≤ xs.length ∧ Hid (L.length = xs.length + ys.length) ∧ Own wr w.heap.size .u32 101 p1 c1 L ∧ Below w.heap.size w wr ∧ Hid (g0i B32 L xs ys i))
  (fun iv _ => xs.length - (intOf iv).toNat)
 case atStart => exact ⟨0, _, rfl, Nat.zero_le _, List.length_replicate, ho1, hb1, g0i.start B32 (by unfold B32; omega) xs ys _⟩
 case round =>
  obtain ⟨i, L, rfl, hi, hL, hoL, hbL, HR⟩ := hrel
  have hpL := hp.past hbL
  by_cases hlt : i < xs.length
  · have hc1 := hpL.cells i hlt
    go_wp2
    obtain ⟨wo, rfl⟩ : ∃ wo : World, wo = wr := ⟨_, rfl⟩
    go_loopw [8, 35] (fun cv kv wr => ∃ (k cr : Nat) (L : List Nat), kv = .int .i64 k ∧ cv = .int .u64 cr ∧ k ≤ ys.length ∧ cr < 4294967296 ∧ Hid (L.length = xs.length + ys.length) ∧ Own wr w.heap.size .u32 101 p1 c1 L ∧ Below w.heap.size w wr ∧ Hid (m0o B32 L xs ys i k cr))
     (fun _ kv _ => ys.length - (intOf kv).toNat)
    case atStart => exact ⟨0, 0, L, rfl, rfl, Nat.zero_le _, by omega, hL, hoL, hbL, HR.out.enter⟩
    case round =>
     obtain ⟨k, cr, L, rfl, rfl, hk, hcr, hL, hoL, hbL, HR⟩ := hrel
     have hqL := hq.past hbL
     have hsL := hoL.solid
     rw [hL.out] at hsL
     by_cases hkt : k < ys.length
     · have hc2 := hqL.cells k hkt
       have hc3 := hoL.rd.cells (i + k) (by rw [hL.out]; omega)
       have hxd := a0n (B := 4294967296) (by omega) xs HXL.out i
       have hyd := a0n (B := 4294967296) (by omega) ys HYL.out k
       have hLd := a0n (B := 4294967296) (by omega) L HR.out.1 (i + k)
       obtain ⟨hpr, hpr0⟩ := y0o hxd hyd
       have HS := hi0 (HR.out.step (t := dg xs i * dg ys k + dg L (i + k) + cr) (by unfold B32; omega) hkt (by rw [hL.out]; omega) rfl)
       have HC := hi0 (k1k HR.out hcr hxd hyd)
       go_wp2_with (refine a0y rfl _ _ _ rfl 101 c0c _ _ _ _ hoL (i + k) (by rw [hL.out]; omega) _ ?_ rfl rfl ?_; omega; intro w3 ho3 hg3 hb3)
       have e3 : (((dg xs i : Int) * dg ys k + dg L (i + k) + cr) % 4294967296).toNat = (dg xs i * dg ys k + dg L (i + k) + cr) % B32 := by unfold B32; omega
       rw [e3] at ho3
       go_roundw
       case rel => exact ⟨k + 1, (dg xs i * dg ys k + dg L (i + k) + cr) / B32, _, by go_num, by unfold B32; go_num, hkt, HC.out, (by rw [List.length_set]; exact hL.out), ho3, hbL.trans hb3, HS⟩
       case measure => simp [intOf]; omega
     · obtain rfl : k = ys.length := by omega
       have hj : i + ys.length < L.length := by rw [hL.out]; omega
       have HS := hi0 (HR.out.leave rfl hj (by unfold B32; omega))
       go_wp2_with (refine a0y rfl _ _ _ rfl 101 c0c _ _ _ _ hoL (i + ys.length) hj _ ?_ rfl rfl ?_; omega; intro w3 ho3 hg3 hb3)
       have e3 : ((cr : Int) % 4294967296).toNat = cr := by omega
       first | rw [e3] at ho3 | skip
       go_roundw
       case rel => exact ⟨i + 1, _, by go_num, hlt, (by rw [List.length_set]; exact hL.out), ho3, hbL.trans hb3, HS⟩
       case measure => simp [intOf]; omega
  · obtain rfl : i = xs.length := by omega
    go_wp2_with (go_at_call 86; refine (f0p _ _ _ L _ hoL.rd hL.out.symm hoL.le_cap HR.out.1 (by rw [hL.out]; omega)).mono ?_; rintro e w3 ⟨rfl, rfl⟩)
    go_ret
    rw [← HR.out.done (Nat.le_refl _) HA.out HB.out]
    have ht := b0c a0a L HR.out.1
    have ho := hoL.take (dig B32 (val B32 L)).length
    rw [ht] at ho
    exact h0t rfl rfl ho hbL
theorem t0r (p q : OA) (n m c d : Nat) (a b : Nat) (w : World) (hp : Rd w .u32 p (dig B32 a)) (hq : Rd w .u32 q (dig B32 b)) (hn : n = (dig B32 a).length) (hm : m = (dig B32 b).length)
 (hl : (dig B32 a).length + (dig B32 b).length ≤ 1000000000) :
 Calls Tryz.prog 55 #[.slice p n c, .slice q m d] w (g0h w .u32 101 (dig B32 (a * b))) := by
 by_cases h1 : 0 < (dig B32 a).length
 · by_cases h2 : 0 < (dig B32 b).length
   · exact mul_pos p q n m c d a b w _ _ rfl rfl hp hq hn hm h1 h2 hl
   · have h0 : b = 0 := (a0f a0a b).1 (by omega)
     rw [show dig B32 (a * b) = [] by rw [h0, Nat.mul_zero, a0c]]
     exact g1j w (.inr (by omega))
 · have h0 : a = 0 := (a0f a0a a).1 (by omega)
   rw [show dig B32 (a * b) = [] by rw [h0, Nat.zero_mul, a0c]]
   exact g1j w (.inl (by omega))
def y0p (w : World) (base : Nat) (d : Dv) (er : Int) (en : Ending) (w' : World) : Prop :=
 ∃ p c, en = .returned (.tuple #[.agg #[.bool d.neg, .slice p (dig B32 d.m).length c, .int .i64 d.e], .int .i64 er]) ∧ Own w' base .u32 101 p c (dig B32 d.m) ∧ Below w.heap.size w w'
theorem j0s (w : World) (o1 o2 : Obj) : Below w.heap.size w ((w.alloc o1).alloc o2) := ((Below.refl _ _).alloc (Nat.le_refl _) _).alloc (by simp) _
theorem TabW.below {w w' : World} {B : Nat} (h : TabW w) (hb : Below B w w') (hB : 0 < B) : TabW w' :=
 ⟨fun j hj => by rw [Below.cell hb hB]; exact h.1 j hj, Nat.lt_of_lt_of_le h.2 hb.size⟩
theorem Box3.below {w w' : World} {B b : Nat} {v0 v1 v2 : Value} (h : Box3 w b v0 v1 v2) (hb : Below B w w') (hB : b < B) : Box3 w' b v0 v1 v2 :=
 ⟨by rw [Below.cell hb hB]; exact h.c0, by rw [Below.cell hb hB]; exact h.c1, by rw [Below.cell hb hB]; exact h.c2,
  by rw [Below.frozen hb hB]; exact h.f0, by rw [Below.frozen hb hB]; exact h.f1, by rw [Below.frozen hb hB]; exact h.f2, Nat.lt_of_lt_of_le h.lt hb.size⟩
theorem Box3.set {w : World} {b k o : Nat} {v0 v1 v2 u : Value} (h : Box3 w b v0 v1 v2) (hne : b < k) : Box3 (w.setCell ⟨k, o, none⟩ u) b v0 v1 v2 := by
 have hb : Below k w (w.setCell ⟨k, o, none⟩ u) := (Below.refl k w).setCell (p := ⟨k, o, none⟩) (Nat.le_refl _) u
 exact ⟨by rw [Below.cell hb hne]; exact h.c0, by rw [Below.cell hb hne]; exact h.c1, by rw [Below.cell hb hne]; exact h.c2,
  by rw [Below.frozen hb hne]; exact h.f0, by rw [Below.frozen hb hne]; exact h.f1, by rw [Below.frozen hb hne]; exact h.f2, Nat.lt_of_lt_of_le h.lt hb.size⟩
theorem Box3.laid {w : World} {b : Nat} {v0 v1 v2 : Value} (h : Box3 w b v0 v1 v2) (o : Obj) : Box3 (w.alloc o) b v0 v1 v2 := h.past ((Below.refl _ _).alloc (Nat.le_refl _) _)
theorem u1i (w : World) (a0 a1 a2 r0 r1 r2 : Value) (tA tR : TypeId) : ∃ W1, W1 = (w.alloc (.cells #[a0, a1, a2] tA)).alloc (.cells #[r0, r1, r2] tR) ∧
 Below w.heap.size w W1 ∧ Box3 W1 w.heap.size a0 a1 a2 ∧ Box3 W1 (w.heap.size + 1) r0 r1 r2 ∧ W1.heap.size = w.heap.size + 1 + 1 := by
 refine ⟨_, rfl, j0s _ _ _, (d0n w _ _ _ _).laid _, ?_, by simp⟩
 have := d0n (w.alloc (.cells #[a0, a1, a2] tA)) r0 r1 r2 tR
 simpa using this
theorem u1j (w : World) (a0 a1 a2 b0 b1 b2 r0 r1 r2 : Value) (tA tB tR : TypeId) : ∃ W1, W1 = ((w.alloc (.cells #[a0, a1, a2] tA)).alloc (.cells #[b0, b1, b2] tB)).alloc (.cells #[r0, r1, r2] tR) ∧
 Below w.heap.size w W1 ∧ Box3 W1 w.heap.size a0 a1 a2 ∧ Box3 W1 (w.heap.size + 1) b0 b1 b2 ∧ Box3 W1 (w.heap.size + 1 + 1) r0 r1 r2 ∧ W1.heap.size = w.heap.size + 1 + 1 + 1 := by
 refine ⟨_, rfl, (j0s _ _ _).alloc (by simp; omega) _, ((d0n w _ _ _ _).laid _).laid _, ?_, ?_, by simp⟩
 · have := (d0n (w.alloc (.cells #[a0, a1, a2] tA)) b0 b1 b2 tB).laid (.cells #[r0, r1, r2] tR)
   simpa using this
 · have := d0n ((w.alloc (.cells #[a0, a1, a2] tA)).alloc (.cells #[b0, b1, b2] tB)) r0 r1 r2 tR
   simpa using this
theorem w0a {w wk : World} {base base' b : Nat} {d : Dv} {p : OA} {c : Nat} {v0 v1 v2 : Value} (hs : Below w.heap.size w wk) (ho : Own wk base' .u32 101 p c (dig B32 d.m)) (hb : base ≤ base') (hB : w.heap.size ≤ b)
 (hne : p.isSome = true → blk p ≠ b) :
 p0e w base d (.returned (.agg #[.bool d.neg, .slice p (dig B32 d.m).length c, .int .i64 d.e])) (((wk.setCell ⟨b, 0, none⟩ v0).setCell ⟨b, 1, none⟩ v1).setCell ⟨b, 2, none⟩ v2) :=
 ⟨p, c, rfl, (ho.mono hb).same (fun h => by rw [Below.heap_setCell _ _ _ _ (hne h), Below.heap_setCell _ _ _ _ (hne h), Below.heap_setCell _ _ _ _ (hne h)]), ((hs.setCell (by simp; omega) _).setCell (by simp; omega) _).setCell (by simp; omega) _⟩
def p0f (w : World) (fit : Nat → Prop) (d : Dv) (en : Ending) (w' : World) : Prop :=
 ∃ p c, en = .returned (.agg #[.bool d.neg, .slice p (dig B16 d.m).length c, .int .i64 d.e]) ∧ Rd w' .i64 p (dig B16 d.m) ∧ (dig B16 d.m).length ≤ c ∧ (0 < (dig B16 d.m).length → fit (blk p) ∨ w.heap.size ≤ blk p) ∧ Below w.heap.size w w'
theorem g0l {w wk : World} {fit : Nat → Prop} {b : Nat} {d : Dv} {p : OA} {c : Nat} {v0 v1 v2 : Value} (hs : Below w.heap.size w wk) (hr : Rd wk .i64 p (dig B16 d.m)) (hc : (dig B16 d.m).length ≤ c)
 (hf : 0 < (dig B16 d.m).length → fit (blk p) ∨ w.heap.size ≤ blk p) (hB : w.heap.size ≤ b) (hne : 0 < (dig B16 d.m).length → blk p ≠ b) :
 p0f w fit d (.returned (.agg #[.bool d.neg, .slice p (dig B16 d.m).length c, .int .i64 d.e])) (((wk.setCell ⟨b, 0, none⟩ v0).setCell ⟨b, 1, none⟩ v1).setCell ⟨b, 2, none⟩ v2) :=
 ⟨p, c, rfl, hr.same (fun h => by rw [Below.heap_setCell _ _ _ _ (hne h), Below.heap_setCell _ _ _ _ (hne h), Below.heap_setCell _ _ _ _ (hne h)]), hc, hf, ((hs.setCell (by simp; omega) _).setCell (by simp; omega) _).setCell (by simp; omega) _⟩
theorem g1k {g : Bool} {a : Nat} {e : Int} (ha : 0 < a) : (o0i ⟨g, a, e⟩ == 0) = false := by
 unfold o0i
 rw [if_neg (by simp; omega)]
 cases g
 · rfl
 · rfl
def e0n (w : World) (k : IntKind) (xs : List Nat) (en : Ending) (w' : World) : Prop :=
 ∃ p c, en = .returned (.slice p xs.length c) ∧ Rd w' k p xs ∧ xs.length ≤ c ∧ (0 < xs.length → w.heap.size ≤ blk p) ∧ Below w.heap.size w w'
theorem j0a {w : World} {base : Nat} {k : IntKind} {e : TypeId} {p : OA} {c : Nat} {xs : List Nat} (h : Own w base k e p c xs) (h0 : 0 < xs.length) : base ≤ blk p :=
 (h.blk_lt (h.rd.solid h0).1).1
theorem w0b {w w' : World} {k : IntKind} {e : TypeId} {xs ys : List Nat} {p : OA} {n c : Nat} (h : xs = ys) (hn : n = xs.length) (ho : Own w' w.heap.size k e p c xs) (hb : Below w.heap.size w w') : e0n w k ys (.returned (.slice p n c)) w' := by
 subst h hn; exact ⟨p, c, rfl, ho.rd, ho.le_cap, j0a ho, hb⟩
theorem Rd.kept {w w' : World} {k : IntKind} {p : OA} {xs : List Nat} (h : Rd w k p xs) (hb : Below w.heap.size w w') : Rd w' k p xs := h.past hb
theorem d0z (p : OA) (n c : Nat) (xs : List Nat) (w : World) (hr : Rd w .i64 p xs) (hn : n = xs.length) (hc : xs.length ≤ c) (hx : ∀ x ∈ xs, x < B16) (hl : xs.length ≤ 4000000000) :
 Calls Tryz.prog 115 #[.slice p n c] w fun e w' => e = .returned (.slice p (dig B16 (val B16 xs)).length (dig B16 (val B16 xs)).length) ∧ w = w' := by
 subst hn
 go_enter Tryz.func115, Tryz.ntmps115
 go_wp2
 go_loop [3] (fun s => ∃ m : Nat, s = .int .i64 m ∧ m ≤ xs.length ∧ Hid (∀ j, m ≤ j → dg xs j = 0)) (fun s => (intOf s).toNat)
 case atStart => exact ⟨_, rfl, Nat.le_refl _, fun j hj => b0n hj⟩
 case round =>
  obtain ⟨m, rfl, hm, hz⟩ := hrel
  have hs := hr.solid
  by_cases hm0 : m = 0
  · subst hm0
    have e := hi0 (f0z a0e xs 0 hx hm hz.out (.inl rfl))
    go_wp2
    go_ret
    rw [e.out]
    exact ⟨rfl, rfl⟩
  · have hpos : 0 < m := by omega
    by_cases h0 : dg xs (m - 1) = 0
    · have hcell : w.cell? (at_ p (m - 1)) = some (.int .i64 0) := by rw [hr.cells (m - 1) (by omega), h0]; rfl
      have HZ : Hid (∀ j, m - 1 ≤ j → dg xs j = 0) := fun j hj => by
       by_cases hjm : j = m - 1
       · subst hjm; exact h0
       · exact hz.out j (by omega)
      clear h0 hm0
      go_wp2
      go_round
      case rel => exact ⟨m - 1, by go_num, by omega, HZ⟩
      case measure => simp [intOf]; omega
    · have hcell := hr.cells (m - 1) (by omega)
      have h1 : 0 < dg xs (m - 1) := by omega
      have e := hi0 (f0z a0e xs m hx hm hz.out (.inr h0))
      clear h0 hm0
      go_wp2
      go_ret
      rw [e.out]
      exact ⟨rfl, rfl⟩
def e0v : List (List Nat) → Int
 | [] => 0
 | x :: xs => if b0g x = 0 then e0v xs else b0g x
theorem w0c (g c : Nat) (L : List (OA × Nat × List Nat)) (w : World) (hc : ∀ j (h : j < L.length), w.cell? ⟨g, j, none⟩ = some (.slice L[j].1 L[j].2.2.length L[j].2.1))
 (hr : ∀ j (h : j < L.length), Rd w .u32 L[j].1 L[j].2.2 ∧ L[j].2.2.length ≤ 9223372036854775807) (n : Nat) (hn : n = L.length) (hl : L.length ≤ 1000000) :
 Calls Tryz.prog 139 #[.slice (some ⟨g, 0, none⟩) n c] w fun e w' => e = .returned (.int .i64 (e0v (L.map (·.2.2)))) ∧ w = w' := by
 subst hn
 have HC := hi0 hc
 have HR := hi0 hr
 clear hc hr
 go_enter Tryz.func139, Tryz.ntmps139
 go_wp2
 go_loopg [7] L.length (fun gk iv wr => ∃ (i : Nat), iv = .int .i64 i ∧ gk + i = L.length ∧ wr = w ∧ Hid (e0v (L.map (·.2.2)) = e0v ((L.drop i).map (·.2.2))))
 case atStart => exact ⟨0, rfl, rfl, rfl, rfl⟩
 case round =>
  obtain ⟨i, rfl, hg, rfl, HF⟩ := hrel
  by_cases hlt : i < L.length
  · obtain ⟨p, cc, xs, hL⟩ : ∃ p cc xs, L[i] = (p, cc, xs) := ⟨_, _, _, rfl⟩
    have hcell := HC.out i hlt
    obtain ⟨hx, hxl⟩ := HR.out i hlt
    have hF := HF.out
    rw [List.drop_eq_getElem_cons hlt, List.map_cons, hL] at hF
    rw [hL] at hcell hx hxl
    simp only [e0v] at hcell hx hxl hF
    clear hL
    have hs := hx.solid
    have hgi : 0 < gk := by omega
    by_cases h1 : 0 < xs.length
    · have hcx := hx.cells (xs.length - 1) (by omega)
      have t1 : (0 : Int) < (xs.length : Int) := by omega
      by_cases h2 : dg xs (xs.length - 1) = 0
      · rw [h2] at hcx
        have he : b0g xs = 1 := by unfold b0g; rw [if_pos ⟨h1, h2⟩]
        rw [he] at hF
        have H := hi0 hF
        clear h2 he hF
        go_wp2
        go_ret
        exact ⟨g0t (by rw [H.out]; simp), rfl⟩
      · have h3 : 0 < dg xs (xs.length - 1) := by omega
        have he : b0g xs = if 1200 < xs.length then 2 else 0 := by unfold b0g; rw [if_neg (fun h => h2 h.2)]
        clear h2
        by_cases h4 : 1200 < xs.length
        · rw [he, if_pos h4] at hF
          have H := hi0 hF
          clear hF he
          go_wp2
          go_ret
          exact ⟨g0t (by rw [H.out]; simp), rfl⟩
        · rw [he, if_neg h4] at hF
          have H := hi0 hF
          clear hF he
          go_wp2
          go_roundg (gk - 1)
          case measure => omega
          case rel => exact ⟨i + 1, by go_num, by omega, rfl, by show e0v _ = _; rw [H.out]; simp⟩
    · obtain rfl : xs = [] := List.eq_nil_of_length_eq_zero (by omega)
      have he : b0g [] = 0 := by simp [b0g]
      rw [he] at hF
      have H := hi0 hF
      clear hF he
      go_wp2
      go_roundg (gk - 1)
      case measure => omega
      case rel => exact ⟨i + 1, by go_num, by omega, rfl, by show e0v _ = _; rw [H.out]; simp⟩
  · have H : Hid (e0v (L.map (·.2.2)) = 0) := by
     have := HF.out
     rw [List.drop_of_length_le (by omega)] at this
     exact this
    go_wp2
    go_ret
    exact ⟨g0t H.out.symm, rfl⟩
theorem w0d (xs : List Nat) : e0v [xs] = b0g xs := by
 simp only [e0v]; split <;> simp_all
theorem c1p (p : OA) (c n : Nat) (xs : List Nat) (w : World) (hx : Rd w .u32 p xs) (hn : n = xs.length) (hl : xs.length ≤ 9223372036854775807) :
 Calls Tryz.prog 139 #[.slice (some ⟨w.heap.size, 0, none⟩) 1 1] (w.alloc (.cells #[.slice p n c] 37)) fun e w' => e = .returned (.int .i64 (b0g xs)) ∧ w.alloc (.cells #[.slice p n c] 37) = w' := by
 subst hn
 rw [← w0d]
 refine w0c w.heap.size 1 [(p, c, xs)] _ ?_ ?_ 1 rfl (by simp)
 · intro j h
   obtain rfl : j = 0 := by simp at h; omega
   simp
 · intro j h
   obtain rfl : j = 0 := by simp at h; omega
   exact ⟨hx.laid _, hl⟩
theorem i0d (p : OA) (n c : Nat) (xs : List Nat) (w : World) (hp : Rd w .u32 p xs) (hn : n = xs.length) (hl : xs.length ≤ 9223372036854775807) :
 Calls Tryz.prog 109 #[.slice p n c] w fun e w' => e = .returned (.int .i64 (b0g xs)) ∧ Below w.heap.size w w' := by
 subst hn
 go_enter Tryz.func109, Tryz.ntmps109
 go_wp2_with fail
 refine (c1p p c _ xs _ hp rfl hl).mono ?_
 rintro e w1 ⟨rfl, rfl⟩
 go_wp2_with fail
 go_ret
 exact ⟨rfl, (Below.refl _ _).alloc (Nat.le_refl _) _⟩
structure Din where
 g : Bool
 p : OA
 c : Nat
 xs : List Nat
 e : Int
def s1o (d : Din) : Int := if b0g d.xs = 0 then (if d.e < -20000 ∨ 20000 < d.e then 3 else 0) else b0g d.xs
structure InD (w : World) (a : Din) : Prop where
 rd : Rd w .u32 a.p a.xs
 cap : a.xs.length ≤ a.c
 len : a.xs.length ≤ 9223372036854775807
 lt : ∀ x ∈ a.xs, x < B32
theorem InD.past {w w' : World} {a : Din} (h : InD w a) (hb : Below w.heap.size w w') : InD w' a := ⟨h.rd.past hb, h.cap, h.len, h.lt⟩
theorem InD.laid {w : World} {a : Din} (h : InD w a) (o : Obj) : InD (w.alloc o) a := ⟨h.rd.laid o, h.cap, h.len, h.lt⟩
theorem InD.drew {w : World} {a : Din} (h : InD w a) : InD w.drew a := ⟨h.rd.drew, h.cap, h.len, h.lt⟩
theorem InD.ok {w : World} {a : Din} (h : InD w a) (he : s1o a = 0) : ∃ m, a.xs = dig B32 m ∧ val B32 a.xs = m ∧ (dig B32 m).length ≤ 1200 ∧ -20000 ≤ a.e ∧ a.e ≤ 20000 := by
 unfold s1o at he
 by_cases h1 : b0g a.xs = 0
 · rw [if_pos h1] at he
   obtain ⟨h2, h3⟩ := e0y h.lt h1
   refine ⟨_, h2, rfl, by rw [← h2]; exact h3, ?_⟩
   by_cases h4 : a.e < -20000 ∨ 20000 < a.e
   · rw [if_pos h4] at he; simp at he
   · omega
 · rw [if_neg h1] at he; exact absurd he h1
theorem y0p.mono {w w' : World} {base base' : Nat} {d : Dv} {er : Int} {en : Ending} (h : y0p w base d er en w') (hb : base' ≤ base) : y0p w base' d er en w' := by
 obtain ⟨p, c, h1, h2, h3⟩ := h
 exact ⟨p, c, h1, h2.mono hb, h3⟩
theorem Box3.put {w : World} {b : Nat} {v0 v1 v2 : Value} (h : Box3 w b v0 v1 v2) (u0 u1 u2 : Value) : Box3 (((w.setCell ⟨b, 0, none⟩ u0).setCell ⟨b, 1, none⟩ u1).setCell ⟨b, 2, none⟩ u2) b u0 u1 u2 := by
 have h1 : Box3 (w.setCell ⟨b, 0, none⟩ u0) b u0 v1 v2 :=
  ⟨World.cell?_setCell_same _ _ _ h.c0, (World.cell?_setCell_other _ _ _ _ (by simp)).trans h.c1, (World.cell?_setCell_other _ _ _ _ (by simp)).trans h.c2, by simpa using h.f0, by simpa using h.f1, by simpa using h.f2, by simpa using h.lt⟩
 have h2 : Box3 ((w.setCell ⟨b, 0, none⟩ u0).setCell ⟨b, 1, none⟩ u1) b u0 u1 v2 :=
  ⟨(World.cell?_setCell_other _ _ _ _ (by simp)).trans h1.c0, World.cell?_setCell_same _ _ _ h1.c1, (World.cell?_setCell_other _ _ _ _ (by simp)).trans h1.c2, by simpa using h.f0, by simpa using h.f1, by simpa using h.f2, by simpa using h.lt⟩
 exact ⟨(World.cell?_setCell_other _ _ _ _ (by simp)).trans h2.c0, (World.cell?_setCell_other _ _ _ _ (by simp)).trans h2.c1, World.cell?_setCell_same _ _ _ h2.c2, by simpa using h.f0, by simpa using h.f1, by simpa using h.f2, by simpa using h.lt⟩
theorem _root_.Go.Slip.Bx.bb3 {w : World} {b : Nat} {v0 v1 v2 : Value} (h : Bx w b #[v0, v1, v2]) : Box3 w b v0 v1 v2 :=
 ⟨h.e3.1, h.e3.2.1, h.e3.2.2, h.f 0, h.f 1, h.f 2, h.lt⟩
theorem g1l (p : OA) (n c : Nat) (e : Int) (m : Nat) (w : World) (hp : Rd w .u32 p (dig B32 m)) (hn : n = (dig B32 m).length) (hc : n ≤ c) (hl : (dig B32 m).length ≤ 10000000)
 (he : -1000000000 ≤ e ∧ e ≤ 1000000000) (hT : TabW w) :
 Calls Tryz.prog 159 #[.slice p n c, .int .i64 e] w (p0e w w.heap.size (bare ⟨false, m, e⟩)) := by
 subst hn
 go_enter Tryz.func159, Tryz.ntmps159
 go_wp2_with fail
 refine b1z (fun W1 hb1 hz1 R => ?_)
 replace hp := hp.past hb1
 replace hT := hT.past hb1
 have hs1 := hb1
 ((with_reducible refine (y0n false p _ c e m _ hp rfl hc hl he hT).mono ?_))
 generalize bare ⟨false, m, e⟩ = r at *
 rintro e2 w2 ⟨p2, c2, rfl, ho2, hb2⟩
 replace R := R.past hb2
 obtain ⟨R_0, R_1, R_2⟩ := R.e3
 have R_f0 := R.f 0
 have R_f1 := R.f 1
 have R_f2 := R.f 2
 go_wp2_with fail
 clear R_0 R_1 R_2 R_f0 R_f1 R_f2
 obtain ⟨R_0, R_1, R_2⟩ := R.e3
 refine bodyPost_ret (v := .agg #[.bool r.neg, .slice p2 (dig B32 r.m).length c2, .int .i64 r.e]) (by simp [results, Tryz.results159, go_sem, R_0, R_1, R_2]) rfl ?_
 have hz := hs1.size
 exact w0a (hs1.trans (hb2.mono hs1.size)) ho2 hz (Nat.le_refl _) (fun h => by have := (ho2.blk_lt h).1; omega)
theorem p1l (g : Bool) (p : OA) (n c : Nat) (e : Int) (m : Nat) (w : World) (hn : n = (dig B32 m).length) :
 Calls Tryz.prog 161 #[.agg #[.bool g, .slice p n c, .int .i64 e]] w fun en w' => en = .returned (.agg #[.bool (d0c ⟨g, m, e⟩).neg, .slice p (dig B32 m).length c, .int .i64 e]) ∧ Below w.heap.size w w' := by
 subst hn
 have hz := a0f a0a m
 have A := (k0h w #[.bool g, .slice p (dig B32 m).length c, .int .i64 e] 202).bb3
 cases g
 · by_cases h0 : 0 < (dig B32 m).length
   · have t1 : decide ((0 : Int) < ((dig B32 m).length : Int)) = true := dTr (by omega)
     have hd : (d0c ⟨false, m, e⟩).neg = true := by unfold d0c; simp; (try omega)
     rw [hd]
     clear hd hz
     obtain ⟨A_0, A_1, A_2, A_f0, A_f1, A_f2, A_lt⟩ := A
     go_enter Tryz.func161, Tryz.ntmps161
     go_wp2_with fail
     refine bodyPost_ret (v := .agg #[.bool true, .slice p (dig B32 m).length c, .int .i64 e]) (by simp [results, Tryz.results161, go_sem]) rfl ?_
     exact ⟨rfl, f0v _ _ _⟩
   · have t1 : decide ((0 : Int) < ((dig B32 m).length : Int)) = false := dFa (by omega)
     have hd : (d0c ⟨false, m, e⟩).neg = false := by unfold d0c; simp; (try omega)
     rw [hd]
     clear hd hz
     obtain ⟨A_0, A_1, A_2, A_f0, A_f1, A_f2, A_lt⟩ := A
     go_enter Tryz.func161, Tryz.ntmps161
     go_wp2_with fail
     refine bodyPost_ret (v := .agg #[.bool false, .slice p (dig B32 m).length c, .int .i64 e]) (by simp [results, Tryz.results161, go_sem]) rfl ?_
     exact ⟨rfl, f0v _ _ _⟩
 · have t1 := True.intro
   have hd : (d0c ⟨true, m, e⟩).neg = false := by unfold d0c; simp; (try omega)
   rw [hd]
   clear hd hz
   obtain ⟨A_0, A_1, A_2, A_f0, A_f1, A_f2, A_lt⟩ := A
   go_enter Tryz.func161, Tryz.ntmps161
   go_wp2_with fail
   refine bodyPost_ret (v := .agg #[.bool false, .slice p (dig B32 m).length c, .int .i64 e]) (by simp [results, Tryz.results161, go_sem]) rfl ?_
   exact ⟨rfl, f0v _ _ _⟩
structure Rw where
 g : Bool
 p : OA
 c : Nat
 m : Nat
 e : Int
def Rw.v (a : Rw) : Dv := ⟨a.g, a.m, a.e⟩
structure InW (w : World) (base : Nat) (a : Rw) : Prop where
 ow : Own w base .u32 101 a.p a.c (dig B32 a.m)
 len : (dig B32 a.m).length ≤ 1000000
 lo : -1000000 ≤ a.e
 hi : a.e ≤ 1000000
theorem InW.past {w w' : World} {base : Nat} {a : Rw} (h : InW w base a) (hb : Below w.heap.size w w') : InW w' base a := ⟨h.ow.past hb, h.len, h.lo, h.hi⟩
theorem InW.drew {w : World} {base : Nat} {a : Rw} (h : InW w base a) : InW w.drew base a := ⟨h.ow.drew, h.len, h.lo, h.hi⟩
theorem InW.mono {w : World} {base base' : Nat} {a : Rw} (h : InW w base a) (hb : base' ≤ base) : InW w base' a := ⟨h.ow.mono hb, h.len, h.lo, h.hi⟩
theorem InW.only {w w' : World} {base k : Nat} {a : Rw} (h : InW w base a) (hb : Only k w w') (hne : a.p.isSome = true → blk a.p ≠ k) : InW w' base a := ⟨h.ow.only hb hne, h.len, h.lo, h.hi⟩
structure El (w : World) (g o : Nat) (a : Rw) : Prop where
 c0 : w.cell? ⟨g, o, none⟩ = some (.bool a.g)
 c1 : w.cell? ⟨g, o + 1, none⟩ = some (.slice a.p (dig B32 a.m).length a.c)
 c2 : w.cell? ⟨g, o + 2, none⟩ = some (.int .i64 a.e)
 lt : g < w.heap.size
theorem El.e3 {w : World} {g o : Nat} {a : Rw} (h : El w g o a) : w.cell? ⟨g, o, none⟩ = some (.bool a.g) ∧ w.cell? ⟨g, o + 1, none⟩ = some (.slice a.p (dig B32 a.m).length a.c) ∧ w.cell? ⟨g, o + 2, none⟩ = some (.int .i64 a.e) := ⟨h.c0, h.c1, h.c2⟩
theorem El.below {w w' : World} {B g o : Nat} {a : Rw} (h : El w g o a) (hb : Below B w w') (hB : g < B) : El w' g o a :=
 ⟨by rw [Below.cell hb hB]; exact h.c0, by rw [Below.cell hb hB]; exact h.c1, by rw [Below.cell hb hB]; exact h.c2, Nat.lt_of_lt_of_le h.lt hb.size⟩
theorem El.past {w w' : World} {g o : Nat} {a : Rw} (h : El w g o a) (hb : Below w.heap.size w w') : El w' g o a := h.below hb h.lt
theorem El.drew {w : World} {g o : Nat} {a : Rw} (h : El w g o a) : El w.drew g o a := ⟨h.c0, h.c1, h.c2, h.lt⟩
theorem El.laid {w : World} {g o : Nat} {a : Rw} (h : El w g o a) (ob : Obj) : El (w.alloc ob) g o a := h.past (c0p _ _)
theorem El.set {w : World} {g o k i : Nat} {a : Rw} {v : Value} (h : El w g o a) (hne : g < k) : El (w.setCell ⟨k, i, none⟩ v) g o a :=
 h.below ((Below.refl k w).setCell (p := ⟨k, i, none⟩) (Nat.le_refl _) v) hne
def Tb (w : World) (b : Nat) (t : TypeId) : Prop := ∃ vs fz, w.heap[b]? = some (.cells vs t fz)
theorem Tb.lt {w : World} {b : Nat} {t : TypeId} (h : Tb w b t) : b < w.heap.size := by
 obtain ⟨_, _, h⟩ := h
 exact (Array.getElem?_eq_some_iff.1 h).1
theorem Tb.past {w w' : World} {b : Nat} {t : TypeId} (h : Tb w b t) (hb : Below w.heap.size w w') : Tb w' b t := by
 have hl := h.lt
 obtain ⟨vs, fz, h⟩ := h
 exact ⟨vs, fz, (hb.block _ hl).trans h⟩
theorem Tb.drew {w : World} {b : Nat} {t : TypeId} (h : Tb w b t) : Tb w.drew b t := h
theorem Tb.only {w w' : World} {b k : Nat} {t : TypeId} (h : Tb w b t) (hb : Only k w w') (hne : b ≠ k) : Tb w' b t := by
 obtain ⟨vs, fz, h⟩ := h
 exact ⟨vs, fz, (hb.block _ hne).trans h⟩
theorem _root_.Go.Slip.Own.ne_tb {w : World} {base b : Nat} {k : IntKind} {e t : TypeId} {p : OA} {c : Nat} {xs : List Nat} (h : Own w base k e p c xs) (hb : Tb w b t) (hne : e ≠ t) (hp : p.isSome = true) : blk p ≠ b := by
 obtain ⟨vs, fz, hb⟩ := hb
 rcases h.2 with ⟨h1, _⟩ | ⟨g, cap, cur, hv, _, hg, _⟩
 · simp only [Value.slice.injEq] at h1
   rw [h1.1] at hp; simp at hp
 · simp only [Value.slice.injEq] at hv
   obtain ⟨rfl, _, rfl⟩ := hv
   intro h2
   have h3 : g = b := h2
   rw [h3, hb] at hg
   simp only [Option.some.injEq, Obj.cells.injEq] at hg
   exact hne hg.2.1.symm
theorem r0p {w : World} {base : Nat} {k : IntKind} {e : TypeId} {p : OA} {c : Nat} {X : List Nat} (h : Own w base k e p c X) (j : Nat) (hj : j < X.length) :
 (∀ i, at_ (p.map (·.add j)) i = at_ p (j + i)) ∧ m0p (p.map (·.add j)) (X.length - j) := by
 have h1 := h.rd.solid (by omega)
 refine ⟨fun i => d1s p j i h1.1, ?_⟩
 have := (h.rd.drop j).solid
 rwa [List.length_drop] at this
def g1m (w : World) (base : Nat) (e : TypeId) (p : OA) (c : Nat) (X ys : List Nat) (j t : Nat) (en : Ending) (w' : World) : Prop :=
 ∃ L br, br ≤ 1 ∧ en = .returned (.bool (decide (0 < br))) ∧ Own w' base .u32 e p c L ∧ w.grownBy w' (some (blk p)) ∧ Below base w w' ∧
  c0x L X j (ys.length + 1) ∧ val B32 L + B32 ^ j * (t * val B32 ys) = val B32 X + br * B32 ^ (j + (ys.length + 1))
theorem t0s (p pw q : OA) (c cw n m d : Nat) (X ys : List Nat) (j t base : Nat) (w : World) (hX : Own w base .u32 101 p c X) (hq : Rd w .u32 q ys) (hpw : pw = p.map (·.add j)) (hm : m = ys.length) (hn : n = ys.length + 1)
 (hj : j + ys.length < X.length) (hxl : ∀ x ∈ X, x < B32) (hyl : ∀ x ∈ ys, x < B32) (ht : t < 4294967296) (hap : o0d p q ys) (hps : p.isSome = true) (hl : X.length ≤ 1000000000) :
 Calls Tryz.prog 107 #[.slice pw n cw, .slice q m d, .int .u32 t] w (g1m w base 101 p c X ys j t) := by
 subst hm hn
 obtain ⟨hat, hsw⟩ := r0p hX j (by omega)
 have hsw := hsw.mono (show ys.length + 1 ≤ X.length - j by omega)
 rw [← hpw] at hat hsw
 clear hpw
 have hsy := hq.solid
 have HXL := hi0 hxl
 have HYL := hi0 hyl
 have HAT := hi0 hat
 have H0 := hi0 (s0k.start hxl ys j t)
 have HPS := hi0 hps
 clear hxl hyl hat hps
 go_enter Tryz.func107, Tryz.ntmps107
 go_wp2
 go_loopw [7, 8, 14] (fun cv bv iv wr => ∃ (i cr br : Nat) (L : List Nat), iv = .int .i64 i ∧ cv = .int .u64 cr ∧ bv = .int .u32 br ∧ i ≤ ys.length ∧ cr < 4294967296 ∧ br ≤ 1 ∧ Hid (L.length = X.length) ∧ Own wr base .u32 101 p c L ∧ w.grownBy wr (some (blk p)) ∧ Below base w wr ∧ Hid (s0k L X ys j t i cr br))
  (fun _ _ iv _ => ys.length - (intOf iv).toNat)
 case atStart => exact ⟨0, 0, 0, X, rfl, rfl, rfl, Nat.zero_le _, by omega, by omega, rfl, hX, World.grownBy.refl _ _, Below.refl _ _, H0⟩
 case round =>
  obtain ⟨i, cr, br, L, rfl, rfl, rfl, hi, hcr, hbr, hL, hoL, hgL, hbL, HR⟩ := hrel
  have hqL := hq.written hgL hap HPS.out
  have hLd := a0n (B := 4294967296) (by omega) L HR.out.1.1 (j + i)
  have hXd := a0n (B := 4294967296) (by omega) X HXL.out (j + i)
  have hc1 := hoL.rd.cells (j + i) (by rw [hL.out]; omega)
  rw [← HAT.out i] at hc1
  by_cases hlt : i < ys.length
  · have hc2 := hqL.cells i hlt
    have hyd := a0n (B := 4294967296) (by omega) ys HYL.out i
    obtain ⟨hpr, hpr0⟩ := y0o hyd ht
    obtain ⟨P, hP⟩ : ∃ P, P = dg ys i * t + cr := ⟨_, rfl⟩
    have HS := hi0 (HR.out.step (by omega) hXd hbr P hP)
    have et : (dg ys i : Int) * (t : Nat) + (cr : Nat) = (P : Nat) := by rw [hP]; simp
    have hP0 : P < 18446744073709551616 := by omega
    obtain ⟨pl, hpl⟩ : ∃ pl, pl = P % 4294967296 := ⟨_, rfl⟩
    obtain ⟨ph, hph⟩ : ∃ ph, ph = P / 4294967296 := ⟨_, rfl⟩
    have em : (P : Int) % 4294967296 = (pl : Nat) := by omega
    have ed : (P : Int) / 4294967296 = (ph : Nat) := by omega
    have hpl0 : pl < 4294967296 := by omega
    have hph0 : ph < 4294967296 := by omega
    rw [← hpl, ← hph] at HS
    have HC := s0j (dg L (j + i)) pl br
    clear hP hpl hph
    go_wp2_with (first
      | (go_at_call 138; refine (l0y _ _ br _ hLd hpl0 hbr).mono ?_; rintro e w2 ⟨rfl, rfl⟩)
      | (refine a0y rfl _ _ _ rfl 101 c0c _ _ _ _ hoL (j + i) (by rw [hL.out]; omega) _ ?_ (by rw [← HAT.out i]; rfl) rfl ?_; omega; intro w3 ho3 hg3 hb3))
    rw [Int.toNat_natCast] at ho3
    go_roundw
    case rel => exact ⟨i + 1, ph, subB (dg L (j + i)) pl br, _, by go_num, rfl, rfl, hlt, hph0, HC, (by show (List.set _ _ _).length = _; rw [List.length_set]; exact hL.out), ho3, hgL.trans hg3, hbL.trans hb3, HS⟩
    case measure => simp [intOf]; omega
  · obtain rfl : i = ys.length := by omega
    obtain ⟨HW, HV⟩ := HR.out.last (by omega) hXd hbr hcr
    have HW := hi0 HW
    have HV := hi0 HV
    have HC := s0j (dg L (j + ys.length)) cr br
    have ec : (cr : Int) % 4294967296 = (cr : Nat) := by omega
    go_wp2_with (first
      | (go_at_call 138; refine (l0y _ _ br _ hLd hcr hbr).mono ?_; rintro e w2 ⟨rfl, rfl⟩)
      | (refine a0y rfl _ _ _ rfl 101 c0c _ _ _ _ hoL (j + ys.length) (by rw [hL.out]; omega) _ ?_ (by rw [← HAT.out ys.length]; rfl) rfl ?_; omega; intro w3 ho3 hg3 hb3))
    rw [Int.toNat_natCast] at ho3
    go_ret
    exact ⟨_, subB (dg L (j + ys.length)) cr br, HC, i1u (by simp), ho3, hgL.trans hg3, hbL.trans hb3, HW.out, HV.out⟩
def g1n (w : World) (base : Nat) (e : TypeId) (p : OA) (c : Nat) (X ys : List Nat) (j : Nat) (en : Ending) (w' : World) : Prop :=
 ∃ L co, en = .returned (.tuple #[]) ∧ Own w' base .u32 e p c L ∧ w.grownBy w' (some (blk p)) ∧ Below base w w' ∧
  c0x L X j (ys.length + 1) ∧ val B32 L + co * B32 ^ (j + (ys.length + 1)) = val B32 X + B32 ^ j * val B32 ys
theorem t0t (p pw q : OA) (c cw n m d : Nat) (X ys : List Nat) (j base : Nat) (w : World) (hX : Own w base .u32 101 p c X) (hq : Rd w .u32 q ys) (hpw : pw = p.map (·.add j)) (hm : m = ys.length) (hn : n = ys.length + 1)
 (hj : j + ys.length < X.length) (hxl : ∀ x ∈ X, x < B32) (hyl : ∀ x ∈ ys, x < B32) (hap : o0d p q ys) (hps : p.isSome = true) (hl : X.length ≤ 1000000000) :
 Calls Tryz.prog 108 #[.slice pw n cw, .slice q m d] w (g1n w base 101 p c X ys j) := by
 subst hm hn
 obtain ⟨hat, hsw⟩ := r0p hX j (by omega)
 have hsw := hsw.mono (show ys.length + 1 ≤ X.length - j by omega)
 rw [← hpw] at hat hsw
 clear hpw
 have hsy := hq.solid
 have HXL := hi0 hxl
 have HYL := hi0 hyl
 have HAT := hi0 hat
 have H0 := hi0 (s0l.start hxl ys j)
 have HPS := hi0 hps
 clear hxl hyl hat hps
 go_enter Tryz.func108, Tryz.ntmps108
 go_wp2
 go_loopw [4, 9] (fun cv iv wr => ∃ (i cr : Nat) (L : List Nat), iv = .int .i64 i ∧ cv = .int .u32 cr ∧ i ≤ ys.length ∧ cr ≤ 1 ∧ Hid (L.length = X.length) ∧ Own wr base .u32 101 p c L ∧ w.grownBy wr (some (blk p)) ∧ Below base w wr ∧ Hid (s0l L X ys j i cr))
  (fun _ iv _ => ys.length - (intOf iv).toNat)
 case atStart => exact ⟨0, 0, X, rfl, rfl, Nat.zero_le _, by omega, rfl, hX, World.grownBy.refl _ _, Below.refl _ _, H0⟩
 case round =>
  obtain ⟨i, cr, L, rfl, rfl, hi, hcr, hL, hoL, hgL, hbL, HR⟩ := hrel
  have hqL := hq.written hgL hap HPS.out
  have hLd := a0n (B := 4294967296) (by omega) L HR.out.1.1 (j + i)
  have hc1 := hoL.rd.cells (j + i) (by rw [hL.out]; omega)
  rw [← HAT.out i] at hc1
  by_cases hlt : i < ys.length
  · have hc2 := hqL.cells i hlt
    have hyd := a0n (B := 4294967296) (by omega) ys HYL.out i
    have HS := hi0 (HR.out.step (by omega) _ rfl)
    have HC : (dg L (j + i) + dg ys i + cr) / 4294967296 ≤ 1 := by omega
    go_wp2_with (first
      | (go_at_call 93; refine (i0o _ _ cr _ hLd hyd hcr).mono ?_; rintro e w2 ⟨rfl, rfl⟩)
      | (refine a0y rfl _ _ _ rfl 101 c0c _ _ _ _ hoL (j + i) (by rw [hL.out]; omega) _ ?_ (by rw [← HAT.out i]; rfl) rfl ?_; omega; intro w3 ho3 hg3 hb3))
    have e3 : (((dg L (j + i) : Int) + dg ys i + cr) % 4294967296).toNat = (dg L (j + i) + dg ys i + cr) % 4294967296 := by omega
    rw [e3] at ho3
    go_roundw
    case rel => exact ⟨i + 1, (dg L (j + i) + dg ys i + cr) / 4294967296, _, by go_num, by go_num, hlt, HC, (by show (List.set _ _ _).length = _; rw [List.length_set]; exact hL.out), ho3, hgL.trans hg3, hbL.trans hb3, HS⟩
    case measure => simp [intOf]; omega
  · obtain rfl : i = ys.length := by omega
    obtain ⟨HW, HV⟩ := HR.out.last (by omega)
    have HW := hi0 HW
    have HV := hi0 HV
    go_wp2_with (refine a0y rfl _ _ _ rfl 101 c0c _ _ _ _ hoL (j + ys.length) (by rw [hL.out]; omega) _ ?_ (by rw [← HAT.out ys.length]; rfl) rfl ?_; omega; intro w3 ho3 hg3 hb3)
    have e3 : (((dg L (j + ys.length) : Int) + cr) % 4294967296).toNat = (dg L (j + ys.length) + cr) % 4294967296 := by omega
    rw [e3] at ho3
    go_end0
    exact ⟨_, _, rfl, ho3, hgL.trans hg3, hbL.trans hb3, HW.out, HV.out⟩
theorem k1l (x : Nat) (w : World) (h1 : x < 4294967296) :
 Calls Tryz.prog 106 #[.int .u32 x] w fun e w' => e = .returned (.int .i64 ((32 - blen x : Nat) : Int)) ∧ w = w' := by
 have hb : blen x ≤ 32 := (a0u x 32).2 (by omega)
 go_enter Tryz.func106, Tryz.ntmps106
 go_wp2_with (go_at_call 85; refine (v0w x _ h1).mono ?_; rintro e w1 ⟨rfl, rfl⟩)
 go_ret
 exact ⟨g0t (by omega), rfl⟩
theorem _root_.Go.Slip.DivRel.even' {A mm j t r : Nat} {ys U Q L : List Nat} (h : DivRel A (val B32 ys) ys.length U Q (j + 1)) (k : e0z ys U mm j) (ht : k0b ys U mm j t r) (hj : j < Q.length) (hB : t < 4294967296)
 (hw : c0x L U j (ys.length + 1)) (hv : val B32 L + B32 ^ j * (t * val B32 ys) = val B32 U + 0 * B32 ^ (j + (ys.length + 1))) : DivRel A (val B32 ys) ys.length L (Q.set j t) j := by
 have e := k.ly
 rw [e] at h hw hv ⊢
 exact h.even k ht hj hB hw hv
theorem _root_.Go.Slip.DivRel.owed' {A mm j t r co : Nat} {ys U Q L M : List Nat} (h : DivRel A (val B32 ys) ys.length U Q (j + 1)) (k : e0z ys U mm j) (ht : k0b ys U mm j t r) (he : t ≤ val B32 (U.drop j) / val B32 ys + 1) (hj : j < Q.length) (hB : t < 4294967296)
 (hw : c0x L U j (ys.length + 1)) (hv : val B32 L + B32 ^ j * (t * val B32 ys) = val B32 U + 1 * B32 ^ (j + (ys.length + 1)))
 (hw2 : c0x M L j (ys.length + 1)) (hv2 : val B32 M + co * B32 ^ (j + (ys.length + 1)) = val B32 L + B32 ^ j * val B32 ys) : 0 < t ∧ DivRel A (val B32 ys) ys.length M (Q.set j (t - 1)) j := by
 have e := k.ly
 rw [e] at h hw hv hw2 hv2 ⊢
 exact h.owed k ht he hj hB hw hv hw2 hv2
theorem t0u {mm j t : Nat} {ys U L : List Nat} (k : e0z ys U mm j) (hw : c0x L U j (ys.length + 1)) (hv : val B32 L + B32 ^ j * (t * val B32 ys) = val B32 U + 1 * B32 ^ (j + (ys.length + 1))) : 0 < t := by
 have e := k.ly
 rw [e] at hw hv
 have h1 := e1b hw hv
 have h2 := e1c hw k.z
 rcases Nat.eq_zero_or_pos t with h0 | h0
 · subst h0
   rw [Nat.zero_mul] at h1
   omega
 · exact h0
def a1w (w : World) (e : TypeId) (xs ys : List Nat) (en : Ending) (w' : World) : Prop :=
 ∃ p c q d, en = .returned (.tuple #[.slice p xs.length c, .slice q ys.length d]) ∧ Own w' w.heap.size .u32 e p c xs ∧ Own w' w.heap.size .u32 e q d ys ∧ Below w.heap.size w w' ∧ (p.isSome = true → q.isSome = true → blk p ≠ blk q)
theorem k1m (p q : OA) (n m c d : Nat) (a b : Nat) (w : World) (hp : Rd w .u32 p (dig B32 a)) (hq : Rd w .u32 q (dig B32 b)) (hn : n = (dig B32 a).length) (hm : m = (dig B32 b).length)
 (hl : (dig B32 a).length ≤ 1000000000) (hl2 : (dig B32 b).length ≤ 1000000000) (hab : a < b) :
 Calls Tryz.prog 56 #[.slice p n c, .slice q m d] w (a1w w 101 [] (dig B32 a)) := by
 subst hn hm
 have hC : cmpN a b ≤ -1 := by rw [g0u hab]; omega
 go_enter Tryz.func56, Tryz.ntmps56
 go_wp2_with fail
 refine (f0m p q _ _ c d a b _ hp hq rfl rfl (by omega) (by omega)).mono ?_
 rintro e w1 ⟨rfl, hb1⟩
 go_wp2_with fail
 refine (i0n p _ c _ _ (hp.past hb1) rfl hl).mono ?_
 rintro e w2 ⟨p2, c2, rfl, ho2, hb2⟩
 go_wp2_with fail
 go_ret2
 exact ⟨none, 0, p2, c2, rfl, Own.nil _ _ _ _, ho2.mono hb1.size, hb1.trans (hb2.mono hb1.size), fun h => by simp at h⟩
theorem g1o (p q : OA) (n m c d : Nat) (a b : Nat) (w : World) (hp : Rd w .u32 p (dig B32 a)) (hq : Rd w .u32 q [b]) (hn : n = (dig B32 a).length) (hm : m = 1)
 (hl : (dig B32 a).length ≤ 1000000000) (hb0 : 0 < b) (hb1 : b < 4294967296) (hab : b ≤ a) :
 Calls Tryz.prog 56 #[.slice p n c, .slice q m d] w (a1w w 101 (dig B32 (a / b)) (dig B32 (a % b))) := by
 subst hn hm
 have hC : 0 ≤ cmpN a b := by unfold cmpN; rw [if_neg (by omega)]; split <;> omega
 have eb : [b] = dig B32 b := by rw [c0d a0a hb0, Nat.div_eq_of_lt (by unfold B32; omega), a0c, Nat.mod_eq_of_lt (by unfold B32; omega)]
 have hr : a % b < 4294967296 := Nat.lt_trans (Nat.mod_lt a hb0) hb1
 obtain ⟨r, hrr⟩ : ∃ r, a % b = r := ⟨_, rfl⟩
 have HR := hi0 hrr
 rw [hrr] at hr ⊢
 clear hrr
 have hX := hi0 (show ∀ x ∈ [r], x < B32 by simp; unfold B32; omega)
 have hV := hi0 (show val B32 [r] = r by simp)
 have hq2 := hi0 (show Rd w .u32 q (dig B32 b) by rw [← eb]; exact hq)
 have hl1 := hi0 (show 1 = (dig B32 b).length by rw [← eb]; rfl)
 clear eb
 have hsq := hq.solid
 simp only [List.length_singleton] at hsq
 go_enter Tryz.func56, Tryz.ntmps56
 go_wp2_with fail
 refine (f0m p q _ 1 c d a b _ hp hq2.out rfl hl1.out (by omega) (by rw [← hl1.out]; omega)).mono ?_
 rintro e w1 ⟨rfl, hb1'⟩
 have hcd : w1.cell? (at_ q 0) = some (.int .u32 (b : Nat)) := (hq.past hb1').cells 0 (by simp)
 go_wp2_with fail
 refine (v0t p _ c a b _ (hp.past hb1') rfl hl hb0 hb1).mono ?_
 rw [HR.out]
 rintro e w2 ⟨p2, c2, rfl, ho2, hb2⟩
 go_wp2_with (refine a0r rfl _ _ rfl c0c _ ?_ rfl ?_; omega; intro p3 w3 ho3 hb3 hz3 hp3)
 rw [Int.toNat_natCast] at ho3
 refine (f0p p3 1 1 [r] _ ho3.rd rfl (by simp) hX.out (by simp)).mono ?_
 rintro e w4 ⟨rfl, rfl⟩
 rw [hV.out]
 go_wp2_with fail
 go_ret2
 have ht := b0c a0a [r] hX.out
 have ho4 := ho3.take (dig B32 (val B32 [r])).length
 rw [ht, hV.out] at ho4
 have hs2 := hb1'.trans (hb2.mono hb1'.size)
 exact ⟨p2, c2, p3, _, rfl, (ho2.past hb3).mono hb1'.size, ho4.mono hs2.size, hs2.trans (hb3.mono hs2.size), fun h1 h2 => by have := (ho2.blk_lt h1).2; have := (ho4.blk_lt h2).1; omega⟩
theorem k1n (p q : OA) (n m c d : Nat) (a b : Nat) (w : World) (hp : Rd w .u32 p (dig B32 a)) (hq : Rd w .u32 q (dig B32 b)) (hn : n = (dig B32 a).length) (hm : m = (dig B32 b).length)
 (hl : (dig B32 a).length ≤ 100000000) (h2 : 2 ≤ (dig B32 b).length) (hab : b ≤ a) :
 Calls Tryz.prog 56 #[.slice p n c, .slice q m d] w (a1w w 101 (dig B32 (a / b)) (dig B32 (a % b))) := by
 subst hn hm
 have hC : 0 ≤ cmpN a b := by unfold cmpN; rw [if_neg (by omega)]; split <;> omega
 have hlb := a0j a0a hab
 have hb0 : 0 < b := by
  have := a0f a0a b
  omega
 obtain ⟨bt, hbt⟩ : ∃ bt, bt = dg (dig B32 b) ((dig B32 b).length - 1) := ⟨_, rfl⟩
 have hbt1 : bt < 4294967296 := by rw [hbt]; exact a0n (B := 4294967296) (by omega) _ (b0d a0a b) _
 have hbt2 : blen bt ≤ 32 := (a0u bt 32).2 (by omega)
 have hbt3 : 1 ≤ blen bt := (e0h bt).2 (by rw [hbt]; exact (l0c (B := B32) (s := 32) (by decide) a0a b hb0).2)
 obtain ⟨s, hs⟩ : ∃ s, s = 32 - blen bt := ⟨_, rfl⟩
 obtain ⟨nl, nt⟩ := j1a hb0 (s := s) (by rw [← hbt]; omega)
 have hs32 : s < 32 := by omega
 have HS := hi0 hs
 have hcb := hq.cells ((dig B32 b).length - 1) (by omega)
 rw [← hbt] at hcb
 have t1 : (((dig B32 b).length : Int) == 1) = false := bFn (by omega)
 have lu1 := a0j a0a (show a ≤ a * 2 ^ s from Nat.le_mul_of_pos_right _ (Nat.pow_pos (by omega)))
 have lu2 : (dig B32 (a * 2 ^ s)).length ≤ (dig B32 a).length + 2 := by
  refine Nat.le_trans (a0x a0a _ _) ?_
  have : (dig B32 (2 ^ s)).length ≤ 1 := (a0h a0a _ 1).2 (Nat.lt_of_lt_of_le (Nat.pow_lt_pow_right (by omega) hs32) (by decide))
  omega
 obtain ⟨ys, hys⟩ : ∃ ys, ys = dig B32 (b * 2 ^ s) := ⟨_, rfl⟩
 obtain ⟨us, hus⟩ : ∃ us, us = dig B32 (a * 2 ^ s) := ⟨_, rfl⟩
 obtain ⟨mm, hmm⟩ : ∃ mm, ys.length = mm + 2 := ⟨ys.length - 2, by rw [hys, nl]; omega⟩
 have HYD := hi0 (show ∀ x ∈ ys, x < B32 by rw [hys]; exact b0d a0a _)
 have HYV := hi0 (show val B32 ys = b * 2 ^ s by rw [hys]; exact b0a a0a _)
 have hbig : 2147483648 ≤ dg ys (mm + 1) := by
  rw [hys, show mm + 1 = (dig B32 b).length - 1 by rw [← nl, ← hys, hmm]; omega]; exact nt
 rw [← hys] at nl
 rw [← hus] at lu1 lu2
 have hyl1 := Nat.le_of_eq nl
 have hyl2 := Nat.le_of_eq nl.symm
 have hU0 : DivRel (a * 2 ^ s) (val B32 ys) ys.length (us ++ [0]) (List.replicate (us.length + 1 - ys.length) 0) (us.length + 1 - ys.length) := by
  have := DivRel.start (A := a * 2 ^ s) (V := val B32 ys) (n := ys.length) (U := us ++ [0]) (fun x hx => by
    rcases List.mem_append.1 hx with h | h
    · rw [hus] at h; exact b0d a0a _ x h
    · simp at h; rw [h]; exact c0n) (by simp; omega) (by omega) (by rw [e0t, hus, b0a a0a]; simp)
   (by simp; rw [hus]; exact (a0h a0a _ _).1 (Nat.le_refl _))
   (by rw [HYV.out, hys]; exact d0v a0a _ (Nat.mul_pos hb0 (Nat.pow_pos (by omega))))
  simpa using this
 have HU0 := hi0 hU0
 have HYS := hi0 hys
 have HUS := hi0 hus
 have HMM := hi0 hmm
 obtain ⟨QL, hQL⟩ : ∃ QL, QL = us.length + 1 - ys.length := ⟨_, rfl⟩
 rw [← hQL] at HU0
 have q1 : QL + ys.length ≤ us.length + 1 := by omega
 have q2 : us.length + 1 ≤ QL + ys.length := by omega
 have y2 : 2 ≤ ys.length := by omega
 have HB0 := hi0 hb0
 have HBT := hi0 hbt
 clear hbt hs nl nt hU0 hys hus hmm hQL hb0
 go_enter Tryz.func56, Tryz.ntmps56
 go_wp2_with fail
 refine (f0m p q _ _ c d a b _ hp hq rfl rfl (by omega) (by omega)).mono ?_
 rintro e w1 ⟨rfl, hb1⟩
 have hp1 := hp.past hb1
 have hq1 := hq.past hb1
 have hsq := hq1.solid
 have hcb1 : w1.cell? (at_ q ((dig B32 b).length - 1)) = some (.int .u32 (bt : Nat)) := by
  have h := hq1.cells ((dig B32 b).length - 1) (by omega)
  rw [← HBT.out] at h; exact h
 go_wp2_with fail
 refine (k1l bt _ hbt1).mono ?_
 rintro e w2 ⟨rfl, rfl⟩
 rw [← HS.out]
 go_wp2_with fail
 refine (n0b q _ d b s _ hq1 rfl (by omega) (by omega)).mono ?_
 rw [← HYS.out]
 rintro e w3 ⟨pv, cv, rfl, hov, hb3⟩
 have hs3 := hb1.trans (hb3.mono hb1.size)
 go_wp2_with fail
 refine (n0b p _ c a s _ (hp1.past hb3) rfl (by omega) (by omega)).mono ?_
 rw [← HUS.out]
 rintro e w4 ⟨pu0, cu0, rfl, hou0, hb4⟩
 have hs4 := hs3.trans (hb4.mono hs3.size)
 go_wp2_with (first
   | (refine a0r rfl _ _ rfl c0c 0 (by omega) rfl ?_; intro p5 w5 ho5 hb5 hz5 hp5)
   | (at_builtin; refine a0z rfl _ _ _ rfl c0c w3.heap.size _ _ _ _ (hou0.past hb5) rfl _ _ _ _ ho5.rd rfl rfl rfl ?_ ?_ ?_; (simp; omega); (have := hb5.size; have := hb4.size; omega); intro pu cu w6 hou hg6 hb6 hn6))
 have hs5 := hs4.trans (hb5.mono hs4.size)
 have hs6 := hs5.trans (hb6.mono hs3.size)
 have hvl := hov.rd.lt (by omega)
 have hsz3 := hs3.size
 have hvr6 := ((hov.rd.past hb4).past hb5).below hb6 (fun _ => hvl)
 have hus6 := hou.solid
 rw [List.length_append, List.length_singleton] at hus6
 clear hb1 hb3 hb4 hb5 hb6 hs3 hs4 hs5 hp1 hq1 hcb hcb1 hsq t1 hn6 hg6 hou0 ho5 hz5 hp5
 go_loopw [10] (fun uv wr => uv = .slice pu (us.length + 1) cu ∧ w6 = wr) (fun _ _ => 0)
 case atStart => exact ⟨rfl, rfl⟩
 case round =>
  obtain ⟨rfl, rfl⟩ := hrel
  go_wp2_with (refine h0s rfl _ _ _ rfl c0c .i64 .i64 QL _ _ rfl rfl ?_ ?_ ?_ ?_; omega; omega; omega; intro pq cq w7 hoq hb7 hz7)
  obtain ⟨top, htop⟩ : ∃ top, dg ys (ys.length - 1) = top := ⟨_, rfl⟩
  obtain ⟨nx, hnx⟩ : ∃ nx, dg ys (ys.length - 2) = nx := ⟨_, rfl⟩
  have hvr7 := hvr6.past hb7
  have hc1 := hvr7.cells (ys.length - 1) (by omega)
  have hc2 := hvr7.cells (ys.length - 2) (by omega)
  rw [htop] at hc1
  rw [hnx] at hc2
  have hvs := hvr7.solid
  have htop1 : top < 4294967296 := by rw [← htop]; exact a0n (B := 4294967296) (by omega) ys HYD.out _
  have hnx1 : nx < 4294967296 := by rw [← hnx]; exact a0n (B := 4294967296) (by omega) ys HYD.out _
  have htop2 : 2147483648 ≤ top := by rw [← htop, HMM.out]; exact hbig
  have HTOP := hi0 htop
  have HNX := hi0 hnx
  clear htop hnx hbig
  have b1 : (0 : Int) ≤ (ys.length : Int) - 1 := by omega
  have b2 : (ys.length : Int) - 1 < (ys.length : Int) := by omega
  have b3 : (0 : Int) ≤ (ys.length : Int) - 2 := by omega
  have b4 : (ys.length : Int) - 2 < (ys.length : Int) := by omega
  have e1 : IntKind.i64.wrap ((ys.length : Int) - 1) = (ys.length : Int) - 1 := iwo
  have e2 : IntKind.i64.wrap ((ys.length : Int) - 2) = (ys.length : Int) - 2 := iwo
  have e3 : ((ys.length : Int) - 1).toNat = ys.length - 1 := by omega
  have e4 : ((ys.length : Int) - 2).toNat = ys.length - 2 := by omega
  have e5 : IntKind.u64.wrap (top : Int) = (top : Int) := IntWalk.u64_in _ (by omega)
  have e6 : IntKind.u64.wrap (nx : Int) = (nx : Int) := IntWalk.u64_in _ (by omega)
  go_wp2_with fail
  go_quiet (fail)
  clear b1 b2 b3 b4 e1 e2 e3 e4 e5 e6 hc1 hc2
  have hsvu : w3.heap.size ≤ w6.heap.size := by
   have := hou.rd.lt (by simp)
   have := (hou.blk_lt (hou.rd.solid (by simp)).1).1
   omega
  have hou7 := hou.past hb7
  have hups := (hou.rd.solid (by simp)).1
  have hbu := hou.blk_lt hups
  have hvu : blk pv ≠ blk pu := by omega
  have hqu : pq.isSome = true → some (blk pq) ≠ some (blk pu) := fun h => by
   have := hoq.blk_lt h
   simp only [ne_eq, Option.some.injEq]; omega
  have hqv : pq.isSome = true → blk pq ≠ blk pv := fun h => by
   have := hoq.blk_lt h
   omega
  have HVU := hi0 hvu
  have HQU := hi0 hqu
  have HQV := hi0 hqv
  have HUPS := hi0 hups
  have hs7 := hs6.trans (hb7.mono hs6.size)
  have hsz6 := hs6.size
  clear hvu hqu hqv hups hbu hsvu
  have hcu := hou.le_cap
  rw [List.length_append, List.length_singleton] at hcu
  go_wp2_with fail
  go_loopw [15] (fun jv wr => ∃ (k : Nat) (U Q : List Nat), jv = .int .i64 ((k : Int) - 1) ∧ k ≤ QL ∧ Hid (U.length = us.length + 1) ∧ Hid (Q.length = QL) ∧ Own wr w3.heap.size .u32 101 pu cu U ∧
      Own wr w6.heap.size .u32 101 pq cq Q ∧ Below w.heap.size w wr ∧ Rd wr .u32 pv ys ∧ Hid (DivRel (a * 2 ^ s) (val B32 ys) ys.length U Q k))
   (fun jv _ => (intOf jv + 1).toNat)
  case atStart => exact ⟨QL, _, _, by go_num, Nat.le_refl _, (by show (us ++ [Int.toNat 0]).length = us.length + 1; simp), List.length_replicate, hou7.drewN _, hoq.drewN _, below_drewN hs7 _, hvr7.drewN _, HU0⟩
  case round =>
   obtain ⟨k, U, Q, rfl, hk, hUl, hQl, hoU, hoQ, hbL, hrv, HR⟩ := hrel
   by_cases h0 : 0 < k
   · obtain ⟨j, rfl⟩ : ∃ j, k = j + 1 := ⟨k - 1, by omega⟩
     have ej : ((j + 1 : Nat) : Int) - 1 = j := by omega
     rw [ej]
     have KN : e0z ys U mm j := ⟨HYD.out, HR.out.dU, HMM.out, by rw [show mm + 1 = ys.length - 1 by rw [HMM.out]; omega, HTOP.out]; exact htop2, HR.out.win⟩
     have KN := hi0 KN
     obtain ⟨u2, hu2⟩ : ∃ u2, dg U (j + ys.length) = u2 := ⟨_, rfl⟩
     obtain ⟨u1, hu1⟩ : ∃ u1, dg U (j + ys.length - 1) = u1 := ⟨_, rfl⟩
     obtain ⟨u0, hu0⟩ : ∃ u0, dg U (j + ys.length - 2) = u0 := ⟨_, rfl⟩
     have hc2 := hoU.rd.cells (j + ys.length) (by rw [hUl.out]; omega)
     have hc1 := hoU.rd.cells (j + ys.length - 1) (by rw [hUl.out]; omega)
     have hc0 := hoU.rd.cells (j + ys.length - 2) (by rw [hUl.out]; omega)
     have hsU := hoU.solid
     rw [hUl.out] at hsU
     rw [hu2] at hc2
     rw [hu1] at hc1
     rw [hu0] at hc0
     have hu2l : u2 < 4294967296 := by rw [← hu2]; exact a0n (B := 4294967296) (by omega) U HR.out.dU _
     have hu1l : u1 < 4294967296 := by rw [← hu1]; exact a0n (B := 4294967296) (by omega) U HR.out.dU _
     have hu0l : u0 < 4294967296 := by rw [← hu0]; exact a0n (B := 4294967296) (by omega) U HR.out.dU _
     have HU2 := hi0 hu2
     have HU1 := hi0 hu1
     have HUZ := hi0 hu0
     clear hu2 hu1 hu0
     obtain ⟨two, htwo⟩ : ∃ two, two = u2 * 4294967296 + u1 := ⟨_, rfl⟩
     have HT0 : Hid (k0b ys U mm j (two / top) (two % top)) := by
      have := KN.out.start two (by rw [htwo, ← HU2.out, ← HU1.out, HMM.out]; rfl)
      rw [show mm + 1 = ys.length - 1 by rw [HMM.out]; omega, HTOP.out] at this
      exact this
     have HT0 := hi0 HT0.out
     have hor := or32 u2 u1 hu2l hu1l
     have etw : (u2 : Int) * 4294967296 + (u1 : Nat) = (two : Nat) := by omega
     rw [etw] at hor
     have htwl : two < 18446744073709551616 := by omega
     have HTW := hi0 htwo
     clear etw htwo
     have b0 : (0 : Int) ≤ (j : Int) + ys.length := by omega
     have b1 : (0 : Int) ≤ (j : Int) + ys.length - 1 := by omega
     have b2 : (j : Int) + ys.length < (us.length : Int) + 1 := by omega
     have b3 : (j : Int) + ys.length - 1 < (us.length : Int) + 1 := by omega
     have e1 : IntKind.i64.wrap ((j : Int) + ys.length) = (j : Int) + ys.length := iwo
     have e2 : IntKind.i64.wrap ((j : Int) + ys.length - 1) = (j : Int) + ys.length - 1 := iwo
     have e3 : ((j : Int) + ys.length).toNat = j + ys.length := by omega
     have e4 : ((j : Int) + ys.length - 1).toNat = j + ys.length - 1 := by omega
     have e5 : IntKind.u64.wrap (u2 : Int) = (u2 : Int) := IntWalk.u64_in _ (by omega)
     have e6 : IntKind.u64.wrap (u1 : Int) = (u1 : Int) := IntWalk.u64_in _ (by omega)
     have e7 : IntKind.u64.wrap ((u2 : Int) * 4294967296) = (u2 : Int) * 4294967296 := IntWalk.u64_in _ (by omega)
     go_wp2_with fail
     go_quiet (fail)
     obtain ⟨n1, rfl⟩ : ∃ n1, n1 = nq := ⟨_, rfl⟩
     go_wp2_with fail
     clear b0 b1 b2 b3 e1 e2 e3 e4 e5 e6 e7 hor
     obtain ⟨t0, ht0⟩ : ∃ t0, t0 = two / top := ⟨_, rfl⟩
     obtain ⟨r0, hr0⟩ : ∃ r0, r0 = two % top := ⟨_, rfl⟩
     rw [← ht0, ← hr0] at HT0
     have hr0l : r0 < 4294967296 := by rw [hr0]; exact Nat.lt_trans (Nat.mod_lt _ (by omega)) htop1
     have ht0l : t0 < 18446744073709551616 := by rw [ht0]; exact Nat.lt_of_le_of_lt (Nat.div_le_self _ _) htwl
     have e1 : (two : Int) / (top : Int) = (t0 : Nat) := by rw [ht0]; rfl
     have e2 : (two : Int).tmod (top : Int) = (r0 : Nat) := by rw [hr0, Int.tmod_eq_emod_of_nonneg (by omega)]; rfl
     have e3 : IntKind.u64.wrap (t0 : Int) = (t0 : Int) := IntWalk.u64_in _ (by omega)
     have e4 : ¬ top = 0 := by omega
     have e5 : IntKind.u64.wrap (r0 : Int) = (r0 : Int) := IntWalk.u64_in _ (by omega)
     clear ht0 hr0
     go_quiet (fail)
     clear e1 e2 e3 e4 e5
     have hoU8 := (hoU.drewN n1).drewN nq
     have hoQ8 := (hoQ.drewN n1).drewN nq
     have hrv8 := (hrv.drewN n1).drewN nq
     have hbL8 := below_drewN (below_drewN hbL n1) nq
     have hc8 := hoU8.rd.cells (j + ys.length - 2) (by rw [hUl.out]; omega)
     rw [HUZ.out] at hc8
     generalize (wr.drewN n1).drewN nq = w8 at *
     clear hc0 hc1 hc2 hoU hoQ hrv hbL
     have hju : j + ys.length + 1 ≤ us.length + 1 := by omega
     have hsQ := hoQ8.solid
     rw [hQl.out] at hsQ
     have hjc : j + ys.length + 1 ≤ cu := by omega
     clear ej
     have HXT : Hid (dg ys (mm + 1) = top) := by show dg ys (mm + 1) = top; rw [show mm + 1 = ys.length - 1 by rw [HMM.out]; omega]; exact HTOP.out
     have HXN : Hid (dg ys mm = nx) := by show dg ys mm = nx; rw [show mm = ys.length - 2 by rw [HMM.out]; omega]; exact HNX.out
     have HXU : Hid (dg U (j + mm) = u0) := by show dg U (j + mm) = u0; rw [show j + mm = j + ys.length - 2 by rw [HMM.out]; omega]; exact HUZ.out
     go_wp2_with fail
     go_loop [17, 18] (fun tv rv => ∃ (t r : Nat), tv = .int .u64 t ∧ rv = .int .u64 r ∧ r < 4294967296 ∧ t ≤ 4294967298 ∧ Hid (k0b ys U mm j t r)) (fun tv _ => (intOf tv).toNat)
     case atStart => exact ⟨t0, r0, rfl, rfl, hr0l, HT0.out.bound KN.out, HT0⟩
     case round =>
      obtain ⟨t, r, rfl, rfl, hrl, htl, HT⟩ := hrel
      by_cases hA : 4294967296 ≤ t
      · obtain ⟨hd1, hd2⟩ := HT.out.down KN.out (.inl hA)
        obtain ⟨u, rfl⟩ : ∃ u, t = u + 1 := ⟨t - 1, by omega⟩
        rw [HXT.out, Nat.add_sub_cancel] at hd2
        have HT' := hi0 hd2
        have dA : decide ((4294967296 : Int) ≤ (u : Int) + 1) = true := dTr (by omega)
        clear hd2 hA
        by_cases hbk : 4294967296 ≤ r + top
        · obtain ⟨ht1, ht2⟩ := HT'.out.breaks KN.out hbk
          have HTE := hi0 (HT'.out.exit KN.out ht1 ht2)
          have ht1 : u < 4294967296 := ht1
          have dB : decide ((4294967296 : Int) ≤ (r : Int) + (top : Int)) = true := dTr (by omega)
          clear hbk
          go_wp2_with fail
          ((with_reducible refine (t0s pu _ pv cu _ _ _ _ U ys j u w3.heap.size _ hoU8 hrv8 rfl rfl ?_ ?_ ?_ ?_ ?_ ?_ ?_ ?_).mono ?_))
          · omega
          · rw [hUl.out]; omega
          · exact HR.out.dU
          · exact HYD.out
          · exact ht1
          · exact fun _ _ => HVU.out.symm
          · exact HUPS.out
          · rw [hUl.out]; omega
          rintro e w9 ⟨L, br, hbr, rfl, hoL, hgL, hbL9, HW, HV⟩
          have HW := hi0 HW
          have HV := hi0 HV
          have hoQ9 := hoQ8.grown hgL HQU.out
          have hrv9 := hrv8.written hgL (fun _ _ => HVU.out.symm) HUPS.out
          have hb9 := hbL8.trans (hbL9.mono hsz3)
          have hjQ : j < Q.length := by rw [hQl.out]; omega
          have hqs := hi0 (hoQ9.rd.solid (by omega)).1
          have hLl := hi0 (show L.length = us.length + 1 by rw [HW.out.2.1]; exact hUl.out)
          rcases (show br = 0 ∨ br = 1 by omega) with rfl | rfl
          · have HS := hi0 (HR.out.even' KN.out HT'.out hjQ ht1 HW.out HV.out)
            go_wp2_with (refine a0y rfl _ _ _ rfl 101 c0c _ _ _ _ hoQ9 j hjQ _ ?_ rfl rfl ?_; omega; intro w10 ho10 hg10 hb10)
            rw [Int.toNat_natCast] at ho10
            go_roundw
            case rel => exact ⟨j, L, _, rfl, by omega, hLl, (by show (List.set _ _ _).length = _; rw [List.length_set]; exact hQl.out), hoL.grown hg10 (fun _ => (HQU.out hqs.out).symm), ho10, hb9.trans (hb10.mono hsz6), hrv9.written hg10 (fun _ h => HQV.out h) hqs.out, HS⟩
            case measure => first | (simp [intOf]; done) | (simp [intOf]; omega)
          · have htp : 0 < u := t0u KN.out HW.out HV.out
            obtain ⟨v, rfl⟩ : ∃ v, u = v + 1 := ⟨u - 1, by omega⟩
            go_wp2_with fail
            ((with_reducible refine (t0t pu _ pv cu _ _ _ _ L ys j w3.heap.size _ hoL hrv9 rfl rfl ?_ ?_ ?_ ?_ ?_ ?_ ?_).mono ?_))
            · omega
            · rw [hLl.out]; omega
            · exact HW.out.1
            · exact HYD.out
            · exact fun _ _ => HVU.out.symm
            · exact HUPS.out
            · rw [hLl.out]; omega
            rintro e w10 ⟨M, co, rfl, hoM, hgM, hbM, HW2, HV2⟩
            obtain ⟨_, HS⟩ := HR.out.owed' KN.out HT'.out HTE.out hjQ ht1 HW.out HV.out HW2 HV2
            rw [Nat.add_sub_cancel] at HS
            have HS := hi0 HS
            have hMl := hi0 (show M.length = us.length + 1 by rw [HW2.2.1]; exact hLl.out)
            have hoQ10 := hoQ9.grown hgM HQU.out
            have hrv10 := hrv9.written hgM (fun _ _ => HVU.out.symm) HUPS.out
            have hb10 := hb9.trans (hbM.mono hsz3)
            clear HW2 HV2
            go_wp2_with (refine a0y rfl _ _ _ rfl 101 c0c _ _ _ _ hoQ10 j hjQ _ ?_ rfl rfl ?_; omega; intro w11 ho11 hg11 hb11)
            rw [Int.toNat_natCast] at ho11
            go_roundw
            case rel => exact ⟨j, M, _, rfl, by omega, hMl, (by show (List.set _ _ _).length = _; rw [List.length_set]; exact hQl.out), hoM.grown hg11 (fun _ => (HQU.out hqs.out).symm), ho11, hb10.trans (hb11.mono hsz6), hrv10.written hg11 (fun _ h => HQV.out h) hqs.out, HS⟩
            case measure => first | (simp [intOf]; done) | (simp [intOf]; omega)
        · have dB : decide ((4294967296 : Int) ≤ (r : Int) + (top : Int)) = false := dFa (by omega)
          have hbk' : r + top < 4294967296 := by omega
          clear hbk
          go_wp2_with fail
          go_round
          case rel => exact ⟨u, r + top, by go_num, by go_num, by omega, by omega, HT'⟩
          case measure => first | (simp [intOf]; done) | (simp [intOf]; omega)
      · have htlt : t < 4294967296 := by omega
        obtain ⟨tn, htn⟩ : ∃ tn, tn = t * nx := ⟨_, rfl⟩
        obtain ⟨rr, hrr⟩ : ∃ rr, rr = r * 4294967296 + u0 := ⟨_, rfl⟩
        have etn : (t : Int) * (nx : Int) = (tn : Nat) := by rw [htn]; simp
        obtain ⟨hpr, hpr0⟩ := y0o htlt hnx1
        rw [etn] at hpr hpr0
        have hor := or32 r u0 hrl hu0l
        have etw : (r : Int) * 4294967296 + (u0 : Nat) = (rr : Nat) := by omega
        rw [etw] at hor
        have dA : decide ((4294967296 : Int) ≤ (t : Int)) = false := dFa (by omega)
        have HTL := hi0 htlt
        clear etw hA htlt
        by_cases hB : rr < tn
        · obtain ⟨hd1, hd2⟩ := HT.out.down KN.out (.inr (by rw [HXN.out, HXU.out, ← htn]; show r * 4294967296 + u0 < tn; omega))
          rw [HXT.out] at hd2
          obtain ⟨u, hu⟩ : ∃ u, u = t - 1 := ⟨_, rfl⟩
          rw [← hu] at hd2
          have HT' := hi0 hd2
          have e6 : (t : Int) - 1 = (u : Int) := by omega
          have hut : u < t := by omega
          clear hd2 htn hrr hu
          by_cases hbk : 4294967296 ≤ r + top
          · obtain ⟨ht1, ht2⟩ := HT'.out.breaks KN.out hbk
            have HTE := hi0 (HT'.out.exit KN.out ht1 ht2)
            have ht1 : u < 4294967296 := ht1
            have dB : decide ((4294967296 : Int) ≤ (r : Int) + (top : Int)) = true := dTr (by omega)
            clear hbk
            go_wp2_with fail
            ((with_reducible refine (t0s pu _ pv cu _ _ _ _ U ys j u w3.heap.size _ hoU8 hrv8 rfl rfl ?_ ?_ ?_ ?_ ?_ ?_ ?_ ?_).mono ?_))
            · omega
            · rw [hUl.out]; omega
            · exact HR.out.dU
            · exact HYD.out
            · exact ht1
            · exact fun _ _ => HVU.out.symm
            · exact HUPS.out
            · rw [hUl.out]; omega
            rintro e w9 ⟨L, br, hbr, rfl, hoL, hgL, hbL9, HW, HV⟩
            have HW := hi0 HW
            have HV := hi0 HV
            have hoQ9 := hoQ8.grown hgL HQU.out
            have hrv9 := hrv8.written hgL (fun _ _ => HVU.out.symm) HUPS.out
            have hb9 := hbL8.trans (hbL9.mono hsz3)
            have hjQ : j < Q.length := by rw [hQl.out]; omega
            have hqs := hi0 (hoQ9.rd.solid (by omega)).1
            have hLl := hi0 (show L.length = us.length + 1 by rw [HW.out.2.1]; exact hUl.out)
            rcases (show br = 0 ∨ br = 1 by omega) with rfl | rfl
            · have HS := hi0 (HR.out.even' KN.out HT'.out hjQ ht1 HW.out HV.out)
              go_wp2_with (refine a0y rfl _ _ _ rfl 101 c0c _ _ _ _ hoQ9 j hjQ _ ?_ rfl rfl ?_; omega; intro w10 ho10 hg10 hb10)
              rw [Int.toNat_natCast] at ho10
              go_roundw
              case rel => exact ⟨j, L, _, rfl, by omega, hLl, (by show (List.set _ _ _).length = _; rw [List.length_set]; exact hQl.out), hoL.grown hg10 (fun _ => (HQU.out hqs.out).symm), ho10, hb9.trans (hb10.mono hsz6), hrv9.written hg10 (fun _ h => HQV.out h) hqs.out, HS⟩
              case measure => first | (simp [intOf]; done) | (simp [intOf]; omega)
            · have htp : 0 < u := t0u KN.out HW.out HV.out
              obtain ⟨v, rfl⟩ : ∃ v, u = v + 1 := ⟨u - 1, by omega⟩
              go_wp2_with fail
              ((with_reducible refine (t0t pu _ pv cu _ _ _ _ L ys j w3.heap.size _ hoL hrv9 rfl rfl ?_ ?_ ?_ ?_ ?_ ?_ ?_).mono ?_))
              · omega
              · rw [hLl.out]; omega
              · exact HW.out.1
              · exact HYD.out
              · exact fun _ _ => HVU.out.symm
              · exact HUPS.out
              · rw [hLl.out]; omega
              rintro e w10 ⟨M, co, rfl, hoM, hgM, hbM, HW2, HV2⟩
              obtain ⟨_, HS⟩ := HR.out.owed' KN.out HT'.out HTE.out hjQ ht1 HW.out HV.out HW2 HV2
              rw [Nat.add_sub_cancel] at HS
              have HS := hi0 HS
              have hMl := hi0 (show M.length = us.length + 1 by rw [HW2.2.1]; exact hLl.out)
              have hoQ10 := hoQ9.grown hgM HQU.out
              have hrv10 := hrv9.written hgM (fun _ _ => HVU.out.symm) HUPS.out
              have hb10 := hb9.trans (hbM.mono hsz3)
              clear HW2 HV2
              go_wp2_with (refine a0y rfl _ _ _ rfl 101 c0c _ _ _ _ hoQ10 j hjQ _ ?_ rfl rfl ?_; omega; intro w11 ho11 hg11 hb11)
              rw [Int.toNat_natCast] at ho11
              go_roundw
              case rel => exact ⟨j, M, _, rfl, by omega, hMl, (by show (List.set _ _ _).length = _; rw [List.length_set]; exact hQl.out), hoM.grown hg11 (fun _ => (HQU.out hqs.out).symm), ho11, hb10.trans (hb11.mono hsz6), hrv10.written hg11 (fun _ h => HQV.out h) hqs.out, HS⟩
              case measure => first | (simp [intOf]; done) | (simp [intOf]; omega)
          · have dB : decide ((4294967296 : Int) ≤ (r : Int) + (top : Int)) = false := dFa (by omega)
            have hbk' : r + top < 4294967296 := by omega
            clear hbk
            go_wp2_with fail
            go_round
            case rel => exact ⟨u, r + top, by go_num, by go_num, by omega, by omega, HT'⟩
            case measure => first | (simp [intOf]; done) | (simp [intOf]; omega)
        · have HTE := hi0 (HT.out.exit KN.out HTL.out (by rw [HXN.out, HXU.out, ← htn]; show tn ≤ r * 4294967296 + u0; omega))
          have em : (t : Int) % 4294967296 = (t : Int) := by have := HTL.out; omega
          clear htn hrr
          have ht1 := HTL.out
          have ht1 := hi0 ht1
          go_wp2_with fail
          have ht1 := ht1.out
          clear em dA hor etn
          ((with_reducible refine (t0s pu _ pv cu _ _ _ _ U ys j t w3.heap.size _ hoU8 hrv8 rfl rfl ?_ ?_ ?_ ?_ ?_ ?_ ?_ ?_).mono ?_))
          · omega
          · rw [hUl.out]; omega
          · exact HR.out.dU
          · exact HYD.out
          · exact ht1
          · exact fun _ _ => HVU.out.symm
          · exact HUPS.out
          · rw [hUl.out]; omega
          rintro e w9 ⟨L, br, hbr, rfl, hoL, hgL, hbL9, HW, HV⟩
          have HW := hi0 HW
          have HV := hi0 HV
          have hoQ9 := hoQ8.grown hgL HQU.out
          have hrv9 := hrv8.written hgL (fun _ _ => HVU.out.symm) HUPS.out
          have hb9 := hbL8.trans (hbL9.mono hsz3)
          have hjQ : j < Q.length := by rw [hQl.out]; omega
          have hqs := hi0 (hoQ9.rd.solid (by omega)).1
          have hLl := hi0 (show L.length = us.length + 1 by rw [HW.out.2.1]; exact hUl.out)
          rcases (show br = 0 ∨ br = 1 by omega) with rfl | rfl
          · have HS := hi0 (HR.out.even' KN.out HT.out hjQ ht1 HW.out HV.out)
            go_wp2_with (refine a0y rfl _ _ _ rfl 101 c0c _ _ _ _ hoQ9 j hjQ _ ?_ rfl rfl ?_; omega; intro w10 ho10 hg10 hb10)
            rw [Int.toNat_natCast] at ho10
            go_roundw
            case rel => exact ⟨j, L, _, rfl, by omega, hLl, (by show (List.set _ _ _).length = _; rw [List.length_set]; exact hQl.out), hoL.grown hg10 (fun _ => (HQU.out hqs.out).symm), ho10, hb9.trans (hb10.mono hsz6), hrv9.written hg10 (fun _ h => HQV.out h) hqs.out, HS⟩
            case measure => first | (simp [intOf]; done) | (simp [intOf]; omega)
          · have htp : 0 < t := t0u KN.out HW.out HV.out
            obtain ⟨v, rfl⟩ : ∃ v, t = v + 1 := ⟨t - 1, by omega⟩
            go_wp2_with fail
            ((with_reducible refine (t0t pu _ pv cu _ _ _ _ L ys j w3.heap.size _ hoL hrv9 rfl rfl ?_ ?_ ?_ ?_ ?_ ?_ ?_).mono ?_))
            · omega
            · rw [hLl.out]; omega
            · exact HW.out.1
            · exact HYD.out
            · exact fun _ _ => HVU.out.symm
            · exact HUPS.out
            · rw [hLl.out]; omega
            rintro e w10 ⟨M, co, rfl, hoM, hgM, hbM, HW2, HV2⟩
            obtain ⟨_, HS⟩ := HR.out.owed' KN.out HT.out HTE.out hjQ ht1 HW.out HV.out HW2 HV2
            rw [Nat.add_sub_cancel] at HS
            have HS := hi0 HS
            have hMl := hi0 (show M.length = us.length + 1 by rw [HW2.2.1]; exact hLl.out)
            have hoQ10 := hoQ9.grown hgM HQU.out
            have hrv10 := hrv9.written hgM (fun _ _ => HVU.out.symm) HUPS.out
            have hb10 := hb9.trans (hbM.mono hsz3)
            clear HW2 HV2
            go_wp2_with (refine a0y rfl _ _ _ rfl 101 c0c _ _ _ _ hoQ10 j hjQ _ ?_ rfl rfl ?_; omega; intro w11 ho11 hg11 hb11)
            rw [Int.toNat_natCast] at ho11
            go_roundw
            case rel => exact ⟨j, M, _, rfl, by omega, hMl, (by show (List.set _ _ _).length = _; rw [List.length_set]; exact hQl.out), hoM.grown hg11 (fun _ => (HQU.out hqs.out).symm), ho11, hb10.trans (hb11.mono hsz6), hrv10.written hg11 (fun _ h => HQV.out h) hqs.out, HS⟩
            case measure => first | (simp [intOf]; done) | (simp [intOf]; omega)
   · obtain rfl : k = 0 := by omega
     obtain ⟨hd1, hd2⟩ := HR.out.done
     rw [HYV.out, Nat.mul_div_mul_right _ _ (Nat.pow_pos (by omega))] at hd1
     rw [HYV.out, Nat.mul_mod_mul_right] at hd2
     have HD1 := hi0 hd1
     have HD2 := hi0 hd2
     have HM := hi0 (show a % b * 2 ^ s / 2 ^ s = a % b from Nat.mul_div_cancel _ (Nat.pow_pos (by omega)))
     have hTQ := hoQ.take (dig B32 (val B32 Q)).length
     rw [b0c a0a Q HR.out.dQ, hd1] at hTQ
     have hTU := hoU.take (dig B32 (val B32 U)).length
     rw [b0c a0a U HR.out.dU, hd2] at hTU
     have hlU := b1r a0a U HR.out.dU
     rw [hd2, hUl.out] at hlU
     clear hd1 hd2
     go_wp2_with fail
     refine (f0p pq QL cq Q _ hoQ.rd hQl.out.symm hoQ.le_cap HR.out.dQ (by rw [hQl.out]; omega)).mono ?_
     rintro e w9 ⟨rfl, rfl⟩
     rw [HD1.out]
     go_wp2_with fail
     refine (f0p pu (us.length + 1) cu U _ hoU.rd hUl.out.symm hoU.le_cap HR.out.dU (by rw [hUl.out]; omega)).mono ?_
     rintro e w10 ⟨rfl, rfl⟩
     rw [HD2.out]
     go_wp2_with fail
     refine (y0m pu _ cu (a % b * 2 ^ s) s _ hTU.rd rfl hTU.le_cap (by omega) (by omega)).mono ?_
     rw [HM.out]
     rintro e w11 ⟨p9, c9, rfl, ho9, hb9⟩
     go_wp2_with fail
     go_ret2
     exact ⟨pq, cq, p9, c9, rfl, (hTQ.past hb9).mono hsz6, ho9.mono hbL.size, hbL.trans (hb9.mono hbL.size), fun h1 h2 => by have := (hTQ.blk_lt h1).2; have := (ho9.blk_lt h2).1; omega⟩
theorem i0e (p q : OA) (n m c d : Nat) (a b : Nat) (w : World) (hp : Rd w .u32 p (dig B32 a)) (hq : Rd w .u32 q (dig B32 b)) (hn : n = (dig B32 a).length) (hm : m = (dig B32 b).length)
 (hl : (dig B32 a).length ≤ 100000000) (hl2 : (dig B32 b).length ≤ 100000000) (hb : 0 < b) :
 Calls Tryz.prog 56 #[.slice p n c, .slice q m d] w (a1w w 101 (dig B32 (a / b)) (dig B32 (a % b))) := by
 by_cases hab : a < b
 · rw [Nat.div_eq_of_lt hab, Nat.mod_eq_of_lt hab, a0c]
   exact k1m p q n m c d a b w hp hq hn hm (by omega) (by omega) hab
 · by_cases h1 : (dig B32 b).length = 1
   · have h2 := (a0h a0a b 1).1 (by omega)
     rw [Nat.pow_one] at h2
     have eb : dig B32 b = [b] := by rw [c0d a0a hb, Nat.div_eq_of_lt h2, a0c, Nat.mod_eq_of_lt h2]
     rw [h1] at hm
     rw [eb] at hq
     exact g1o p q n m c d a b w hp hq hn hm (by omega) hb h2 (by omega)
   · have h0 : (dig B32 b).length ≠ 0 := by
      have := a0f a0a b
      omega
     exact k1n p q n m c d a b w hp hq hn hm hl (by omega) (by omega)
end Go.Proofs.YtpgomglbaacmdaaGreatDoor
namespace Go.Slip
end Go.Slip
namespace Go.Proofs.YtpgomglbaacmdaaGreatDoor
open Go.RowKit Go.Slip
def k1o (L : List Rw) : List Value := L.flatMap fun x => [.bool x.g, .slice x.p (dig B32 x.m).length x.c, .int .i64 x.e]
def RowW (w : World) (base : Nat) (v : Value) (L : List Rw) : Prop := w.ownsRow base 202 3 v L.length (k1o L)
def Ov (w : World) (base0 base : Nat) (v : Value) (D : List Dv) : Prop := ∃ L : List Rw, RowW w base0 v L ∧ L.map Rw.v = D ∧ ∀ x ∈ L, InW w base x
def Off (v : Value) (k : Nat) : Prop := v.ownBlock ≠ some k
theorem Ov.nil (w : World) (base0 base : Nat) : Ov w base0 base (.slice none 0 0) [] := ⟨[], World.ownsRow_nil _ _ _ _, rfl, by simp⟩
theorem Ov.lt {w : World} {base0 base : Nat} {v : Value} {D : List Dv} (h : Ov w base0 base v D) : ∀ k, v.ownBlock = some k → base0 ≤ k ∧ k < w.heap.size := by
 obtain ⟨L, h1, _⟩ := h
 exact World.ownsRow.lt h1
theorem Ov.off {w : World} {base0 base : Nat} {v : Value} {D : List Dv} (h : Ov w base0 base v D) {k : Nat} (hk : k < base0 ∨ w.heap.size ≤ k) : Off v k := fun h1 => by
 have := h.lt k h1
 omega
theorem RowW.past {w w' : World} {base : Nat} {v : Value} {L : List Rw} (h : RowW w base v L) (hb : Below w.heap.size w w') : RowW w' base v L := by
 refine ⟨h.1, ?_⟩
 rcases h.2 with hn | ⟨g, cap, cur, hv, hbg, hg, r⟩
 · exact .inl hn
 · exact .inr ⟨g, cap, cur, hv, hbg, (hb.block _ (Array.getElem?_eq_some_iff.1 hg).1).trans hg, r⟩
theorem Ov.past {w w' : World} {base0 base : Nat} {v : Value} {D : List Dv} (h : Ov w base0 base v D) (hb : Below w.heap.size w w') : Ov w' base0 base v D := by
 obtain ⟨L, h1, h2, h3⟩ := h
 exact ⟨L, h1.past hb, h2, fun x hx => (h3 x hx).past hb⟩
theorem InW.grown {w w' : World} {base base2 : Nat} {x : Rw} {v : Value} {n : Nat} {xs : List Value} (h : InW w base x) (hg : w.grownBy w' v.ownBlock) (h2 : w.ownsRow base2 202 3 v n xs) : InW w' base x :=
 ⟨h.ow.grown hg (fun hp he => by
   rcases h2.2 with ⟨h3, _⟩ | ⟨g, cap, cur, hv, _, hgg, _⟩
   · rw [h3] at he; simp [Value.ownBlock] at he
   · rw [hv] at he
     simp only [Value.ownBlock, Option.some.injEq] at he
     exact h.ow.ne_tb (b := g) ⟨cur, (0, 0), hgg⟩ (by decide) hp he), h.len, h.lo, h.hi⟩
theorem Ov.grown {w w' : World} {base0 base base2 base3 : Nat} {v v2 : Value} {D D2 : List Dv} (h : Ov w base0 base v D) (hg : w.grownBy w' v2.ownBlock) (h2 : Ov w base2 base3 v2 D2) (hne : v.ownBlock = none ∨ v.ownBlock ≠ v2.ownBlock) : Ov w' base0 base v D := by
 obtain ⟨L, h3, h4, h5⟩ := h
 obtain ⟨L2, h6, _⟩ := h2
 exact ⟨L, h3.kept hg hne, h4, fun x hx => (h5 x hx).grown hg h6⟩
theorem _root_.Go.Slip.Bx.grown {w w' : World} {b : Nat} {v : Value} {vs : Array Value} (h : Bx w b vs) (hg : w.grownBy w' v.ownBlock) (hne : Off v b) : Bx w' b vs :=
 h.same (hg.block _ h.lt fun he => hne he.symm)
end Go.Proofs.YtpgomglbaacmdaaGreatDoor
namespace Go.Slip
end Go.Slip
namespace Go.Proofs.YtpgomglbaacmdaaGreatDoor
open Go.RowKit Go.Slip
theorem Tb.grown {w w' : World} {b : Nat} {t : TypeId} {v : Value} (h : Tb w b t) (hg : w.grownBy w' v.ownBlock) (hne : Off v b) : Tb w' b t := by
 have hl := h.lt
 obtain ⟨vs, fz, h⟩ := h
 exact ⟨vs, fz, (hg.block _ hl fun he => hne he.symm).trans h⟩
theorem El.new (w : World) (r : Rw) (t : TypeId) : El (w.alloc (.cells #[.bool r.g, .slice r.p (dig B32 r.m).length r.c, .int .i64 r.e] t)) w.heap.size 0 r :=
 have h := k0h w #[.bool r.g, .slice r.p (dig B32 r.m).length r.c, .int .i64 r.e] t
 ⟨h.c 0 rfl, h.c 1 rfl, h.c 2 rfl, h.lt⟩
structure In2 (w : World) (x : Din × Din) : Prop where
 a : InD w x.1
 b : InD w x.2
theorem In2.past {w w' : World} {x : Din × Din} (h : In2 w x) (hb : Below w.heap.size w w') : In2 w' x := ⟨h.a.past hb, h.b.past hb⟩
structure InL (w : World) (base : Nat) (a : Rw) : Prop where
 ow : Own w base .u32 101 a.p a.c (dig B32 a.m)
 len : (dig B32 a.m).length ≤ 1000000
theorem InL.past {w w' : World} {base : Nat} {a : Rw} (h : InL w base a) (hb : Below w.heap.size w w') : InL w' base a := ⟨h.ow.past hb, h.len⟩
theorem sof (N : Int) (n : Nat) (h : N = n) (hn : n < 9223372036854775808) (w : World) : Calls Tryz.prog 38 #[.int .i64 N] w (g0h w .u32 101 (dig B32 n)) := by
 subst h; exact n1n n w hn
theorem sadd (p q : OA) (n m c d : Nat) (a b x : Nat) (w : World) (hp : Rd w .u32 p (dig B32 a)) (hq : Rd w .u32 q (dig B32 b)) (hn : n = (dig B32 a).length) (hm : m = (dig B32 b).length)
 (hl : (dig B32 a).length ≤ 1000000000) (hl2 : (dig B32 b).length ≤ 1000000000) (h : a + b = x) :
 Calls Tryz.prog 46 #[.slice p n c, .slice q m d] w (g0h w .u32 101 (dig B32 x)) := by
 subst h; exact d1x p q n m c d a b w hp hq hn hm hl hl2
theorem k0t : l0n Tryz.prog 146 5 (.int .u8 0) 1 := tyV (by kernel_rfl) (by kernel_rfl) (by omega) rfl rfl
theorem k0u : l0n Tryz.prog 65 4 (.bool false) 1 := tyV (by kernel_rfl) (by kernel_rfl) (by omega) rfl rfl
theorem s1p : k0o Tryz.prog 5 := j0l (by kernel_rfl) (by kernel_rfl)
theorem p0g : k0o Tryz.prog 4 := j0l (by kernel_rfl) (by kernel_rfl)
theorem k1p : k0o Tryz.prog 101 := j0l (by kernel_rfl) (by kernel_rfl)
theorem g1p : Tryz.prog.underlying 146 = some (.slice 5) := by kernel_rfl
theorem p1m : Tryz.prog.underlying 5 = some (.int .u8) := by kernel_rfl
theorem uStr : Tryz.prog.underlying 9 = some .string := by kernel_rfl
theorem sshl (p : OA) (n c : Nat) (a N x : Nat) (M : Int) (w : World) (hp : Rd w .u32 p (dig B32 a)) (hn : n = (dig B32 a).length) (hl : (dig B32 a).length ≤ 100000000) (hN : N ≤ 1000000000) (hM : M = N) (h : a * 2 ^ N = x) :
 Calls Tryz.prog 42 #[.slice p n c, .int .i64 M] w (g0h w .u32 101 (dig B32 x)) := by
 subst h hM; exact n0b p n c a N w hp hn (by omega) hN
theorem sshr (p : OA) (n c : Nat) (a N x : Nat) (M : Int) (w : World) (hp : Rd w .u32 p (dig B32 a)) (hn : n = (dig B32 a).length) (hc : (dig B32 a).length ≤ c) (hl : (dig B32 a).length ≤ 100000000) (hN : N ≤ 1000000000) (hM : M = N) (h : a / 2 ^ N = x) :
 Calls Tryz.prog 105 #[.slice p n c, .int .i64 M] w (g0h w .u32 101 (dig B32 x)) := by
 subst h hM; exact y0m p n c a N w hp hn hc (by omega) hN
theorem ssub (p q : OA) (n m c d : Nat) (a b x : Nat) (w : World) (hp : Rd w .u32 p (dig B32 a)) (hq : Rd w .u32 q (dig B32 b)) (hn : n = (dig B32 a).length) (hm : m = (dig B32 b).length)
 (hl : (dig B32 a).length ≤ 1000000000) (hab : b ≤ a) (h : a - b = x) :
 Calls Tryz.prog 129 #[.slice p n c, .slice q m d] w (g0h w .u32 101 (dig B32 x)) := by
 subst h; exact p1k p q n m c d a b w hp hq hn hm hl hab
theorem j0b (N x : Nat) (M : Int) (w : World) (hN : N ≤ 1000000) (hM : M = N) (h : 2 ^ N = x) : Calls Tryz.prog 130 #[.int .i64 M] w (g0h w .u32 101 (dig B32 x)) := by
 subst hM
 have l1 : (dig B32 1).length ≤ 1 := by rw [a0h a0a]; unfold B32; omega
 have I := Inv.start w [] True.intro
 refine a0g [.v (.int .i64 (N : Int))] I Tryz.func130 ?_
 refine zqo I (fun Al W I => have hzW := I.bel.size; sof 1 1 rfl (by omega) W) fun Al W p3 c3 I => zqo I (fun Al W I => have hzW := I.bel.size; sshl p3 _ c3 1 N x _ W I.fa.1.rd rfl (by omega) (by omega) rfl (by omega)) fun Al W p5 c5 I => zret I fun Al W I => ⟨p5, c5, rfl, I.fa.1.mono (by omega), I.below⟩
theorem b0b {x n k : Nat} (h : x < 2 ^ n) (hk : n ≤ 32 * k) : (dig B32 x).length ≤ k := by
 rw [a0h a0a]
 unfold B32
 rw [show (4294967296 : Nat) = 2 ^ 32 from rfl, ← Nat.pow_mul]
 exact Nat.lt_of_lt_of_le h (Nat.pow_le_pow_right (by omega) hk)
end Go.Proofs.YtpgomglbaacmdaaGreatDoor
namespace Go.Slip
def l0z (K e f k : Nat) : Prop := e + f * k = K
theorem l0z.bd {K e f k : Nat} (h : l0z K e f k) (hk : 0 < k) : e + f ≤ K := by
 unfold l0z at h
 have := Nat.le_mul_of_pos_right f hk
 omega
theorem l0z.two {K e f k : Nat} (h : l0z K e f k) (hk : 1 < k) : f + f ≤ K := by
 unfold l0z at h
 have := Nat.mul_le_mul_left f (show 2 ≤ k from hk)
 omega
theorem l0z.step {K e f k : Nat} (h : l0z K e f k) : l0z K (e + f * (k % 2)) (f + f) (k / 2) := by
 unfold l0z at h ⊢
 have h1 := Nat.div_add_mod k 2
 have h2 : f * k = f * (2 * (k / 2)) + f * (k % 2) := by rw [← Nat.mul_add, h1]
 have h3 : (f + f) * (k / 2) = f * (2 * (k / 2)) := by grind
 omega
theorem g0m {B a K e : Nat} (hB : 2 ≤ B) (ha : a < B) (h : e ≤ K) (hK : 1 ≤ K) : (dig B (a ^ e)).length ≤ K := by
 rw [a0h hB]
 by_cases h0 : e = 0
 · subst h0
   rw [Nat.pow_zero]
   exact Nat.lt_of_lt_of_le (show 1 < B ^ 1 by rw [Nat.pow_one]; omega) (Nat.pow_le_pow_right (by omega) hK)
 · exact Nat.lt_of_lt_of_le (Nat.pow_lt_pow_left ha h0) (Nat.pow_le_pow_right (by omega) h)
end Go.Slip
namespace Go.Proofs.YtpgomglbaacmdaaGreatDoor
open Go.RowKit Go.Slip
theorem p1n (n : Int) : bits .and .i64 n 1 = n % 2 := by
 have h1 : (BitVec.ofInt 64 1).toNat = 2 ^ 1 - 1 := by decide
 have key : (BitVec.ofInt 64 n &&& BitVec.ofInt 64 1).toNat = (n % ((2 ^ 64 : Nat) : Int)).toNat % 2 ^ 1 := by
  rw [BitVec.toNat_and, BitVec.toNat_ofInt, h1, Nat.and_two_pow_sub_one_eq_mod]
 show IntKind.i64.wrap ((BitVec.ofInt 64 n &&& BitVec.ofInt 64 1).toNat : Nat) = n % 2
 rw [key, IntKind.wrap_i64]
 omega
theorem a1x (base : Nat) (p : OA) (c : Nat) (a K : Nat) (w : World) (hp : Own w base .u32 101 p c (dig B32 a)) (hb : base ≤ w.heap.size) (ha : a < 100) (hK : K ≤ 1000000) :
 Calls Tryz.prog 54 #[.slice p (dig B32 a).length c, .int .i64 (K : Int)] w fun en w' => ∃ q d, en = .returned (.slice q (dig B32 (a ^ K)).length d) ∧ Own w' base .u32 101 q d (dig B32 (a ^ K)) ∧ Below w.heap.size w w' := by
 have hl : ∀ e, e ≤ K + 1 → (dig B32 (a ^ e)).length ≤ 1000001 := fun e he => Nat.le_trans (g0m (K := K + 1) a0a (by unfold B32; omega) he (by omega)) (by omega)
 have HM := fun W p q c d e f (h1 : e ≤ K + 1) (h2 : f ≤ K + 1) hp hq => hi0 (show Calls Tryz.prog 55 #[.slice p (dig B32 (a ^ e)).length c, .slice q (dig B32 (a ^ f)).length d] W (g0h W .u32 101 (dig B32 (a ^ (e + f)))) by rw [Nat.pow_add]; exact t0r p q _ _ c d (a ^ e) (a ^ f) W hp hq rfl rfl (by have := hl e h1; have := hl f h2; omega))
 have h1 : dig B32 1 = dig B32 (a ^ 0) := by rw [Nat.pow_zero]
 have ha1 : dig B32 a = dig B32 (a ^ 1) := by rw [Nat.pow_one]
 have HO := fun W => hi0 (sof 1 1 rfl (by omega) W)
 rw [h1] at HO
 rw [ha1] at hp ⊢
 clear h1 ha1
 have I := Inv.start w [ownF base .u32 101 p c (dig B32 (a ^ 1))] ⟨hp, True.intro⟩
 refine a0g [.v (.slice p (dig B32 (a ^ 1)).length c), .v (.int .i64 (K : Int))] I Tryz.func54 ?_
 refine zg I (fun Al W I => (HO W).out) fun Al V Iv _ hB _ kz => ?_
 rintro _ W ⟨p6, c6, rfl, o6, hb⟩
 refine ⟨_, rfl, kz _ _ hb fun I => ?_⟩
 have I := I.ownB base o6
 refine g0e I (fun gk fr bx gs => ∃ (U900 : Nat → Value) (e : Nat) (f : Nat) (k : Nat) (p0 : OA) (c0 : Nat) (p5 : OA) (c5 : Nat), fr = (.v (.slice p0 (dig B32 (a ^ f)).length c0) :: .v (.int .i64 (k : Int)) :: su 2 (.v (.slice none 0 0) :: .v (.slice p5 (dig B32 (a ^ e)).length c5) :: sw U900 6 17 []) : List SV) ∧ bx = [] ∧ gs = [ownF base .u32 101 p5 c5 (dig B32 (a ^ e)), ownF base .u32 101 p0 c0 (dig B32 (a ^ f))] ∧ (l0z K e f k) ∧ (f ≤ K + 1) ∧ (k ≤ K) ∧ (gk = k)) K (fun Al W U I => ⟨_, ⟨U, 0, 1, K, p, c, p6, c6, rfl, rfl, rfl, (by unfold l0z; omega), (by omega), (Nat.le_refl _), rfl⟩, I.pick [0, 1]⟩) ?_
 rintro J0 gk0 _ _ _ ⟨U900, e, f, k, p0, c0, p5, c5, rfl, rfl, rfl, hr, hf, hkK, hgk⟩ hJ0 Al W I
 rcases bTF (decide ((k : Int) > 0)) with f8 | f8
 · refine zb I 8 (decide ((k : Int) > 0)) (true) (f8) fun Al W I => zbin I 12 _ (fun _ _ _ _ _ => o0v .i64 (k : Int) (1) (((k % 2 : Nat) : Int)) ((by rw [p1n]; omega))) fun Al W I => ?_
   rcases bTF (((k % 2 : Nat) : Int) == 1) with f13 | f13
   · refine zb I 13 (((k % 2 : Nat) : Int) == 1) (true) (f13) fun Al W I => zg I (fun Al W I => have hzW := I.bel.size; (HM W p5 p0 c5 c0 e f (by have := hr.bd (by have := oTr f8; omega); omega) hf I.fa.1.rd I.fa.2.1.rd).out) fun Al V Iv _ hB _ kz => ?_
     rintro _ W ⟨p16, c16, rfl, o16, hb⟩
     refine ⟨_, rfl, kz _ _ hb fun I => ?_⟩
     have I := I.ownB base o16
     rcases bTF (decide ((k : Int) > 1)) with f18 | f18
     · refine zb I 18 (decide ((k : Int) > 1)) (true) (f18) fun Al W I => zg I (fun Al W I => (HM W p0 p0 c0 c0 f f hf hf I.fa.2.2.1.rd I.fa.2.2.1.rd).out) fun Al V Iv _ hB _ kz => ?_
       rintro _ W ⟨p21, c21, rfl, o21, hb⟩
       refine ⟨_, rfl, kz _ _ hb fun I => ?_⟩
       have I := I.ownB base o21
       refine zbin I 10 _ (fun _ _ _ _ _ => m0v .i64 (k : Int) .u64 (1) (((k / 2 : Nat) : Int)) (by omega) ((by show (k : Int).fdiv 2 = _; rw [Int.fdiv_eq_ediv_of_nonneg _ (by omega)]; omega))) fun Al W I => a0i I J0 fun Al W U I => hJ0 (k / 2) _ _ _ _ _ ((by have := oTr f8; omega)) ⟨U, e + f, f + f, k / 2, p21, c21, p16, c16, rfl, rfl, rfl, (by have h := hr.step; rw [show k % 2 = 1 by have := beq_iff_eq.1 f13; omega, Nat.mul_one] at h; exact h), (by have := hr.two (by have := oTr f18; omega); omega), (by omega), rfl⟩ (I.pick [1, 0])
     refine zb I 18 (decide ((k : Int) > 1)) (false) (f18) fun Al W I => zbin I 10 _ (fun _ _ _ _ _ => m0v .i64 (k : Int) .u64 (1) (((k / 2 : Nat) : Int)) (by omega) ((by show (k : Int).fdiv 2 = _; rw [Int.fdiv_eq_ediv_of_nonneg _ (by omega)]; omega))) fun Al W I => a0i I J0 fun Al W U I => hJ0 (k / 2) _ _ _ _ _ ((by have := oTr f8; omega)) ⟨U, e + f, f, k / 2, p0, c0, p16, c16, rfl, rfl, rfl, (by have h := oFa f18; have h1 := oTr f8; rw [show k / 2 = 0 by omega]; unfold l0z at hr ⊢; rw [show k = 1 by omega] at hr; omega), hf, (by omega), rfl⟩ (I.pick [0, 2])
   refine zb I 13 (((k % 2 : Nat) : Int) == 1) (false) (f13) fun Al W I => ?_
   rcases bTF (decide ((k : Int) > 1)) with f18 | f18
   · refine zb I 18 (decide ((k : Int) > 1)) (true) (f18) fun Al W I => zg I (fun Al W I => (HM W p0 p0 c0 c0 f f hf hf I.fa.2.1.rd I.fa.2.1.rd).out) fun Al V Iv _ hB _ kz => ?_
     rintro _ W ⟨p21, c21, rfl, o21, hb⟩
     refine ⟨_, rfl, kz _ _ hb fun I => ?_⟩
     have I := I.ownB base o21
     refine zbin I 10 _ (fun _ _ _ _ _ => m0v .i64 (k : Int) .u64 (1) (((k / 2 : Nat) : Int)) (by omega) ((by show (k : Int).fdiv 2 = _; rw [Int.fdiv_eq_ediv_of_nonneg _ (by omega)]; omega))) fun Al W I => a0i I J0 fun Al W U I => hJ0 (k / 2) _ _ _ _ _ ((by have := oTr f8; omega)) ⟨U, e, f + f, k / 2, p21, c21, p5, c5, rfl, rfl, rfl, (by have h := hr.step; rw [show k % 2 = 0 by have := bnF f13; omega, Nat.mul_zero, Nat.add_zero] at h; exact h), (by have := hr.two (by have := oTr f18; omega); omega), (by omega), rfl⟩ (I.pick [1, 0])
   refine zb I 18 (decide ((k : Int) > 1)) (false) (f18) fun Al W I => zbin I 10 _ (fun _ _ _ _ _ => m0v .i64 (k : Int) .u64 (1) (((k / 2 : Nat) : Int)) (by omega) ((by show (k : Int).fdiv 2 = _; rw [Int.fdiv_eq_ediv_of_nonneg _ (by omega)]; omega))) fun Al W I => a0i I J0 fun Al W U I => hJ0 (k / 2) _ _ _ _ _ ((by have := oTr f8; omega)) ⟨U, e, f, k / 2, p0, c0, p5, c5, rfl, rfl, rfl, (by have h := oFa f18; have h1 := oTr f8; have h2 := bnF f13; exfalso; omega), hf, (by omega), rfl⟩ (I.pick [0, 1])
 refine zb I 8 (decide ((k : Int) > 0)) (false) (f8) fun Al W I => ?_
 have he : e = K := by have h := oFa f8; unfold l0z at hr; rw [show k = 0 by omega] at hr; omega
 refine zret I (v := fun Al => .slice p5 (dig B32 (a ^ e)).length c5) fun Al W I => ?_
 subst he; exact ⟨p5, c5, rfl, I.fa.1, I.below⟩
theorem n1o : Tryz.prog.underlying 146 = some (.slice 5) := by kernel_rfl
theorem s1q : Tryz.prog.underlying 5 = some (.int .u8) := by kernel_rfl
theorem g1q : Tryz.prog.underlying 9 = some .string := by kernel_rfl
theorem g1r (s : ByteArray) (w : World) (hs : s.size ≤ 100000000) (hd : a1h s) :
 Calls Tryz.prog 51 #[.string s] w (g0h w .u32 101 (dig B32 (a0l (a0b s)))) := by
 have HD := hi0 hd
 have HT := hi0 (a0q s)
 clear hd
 go_enter Tryz.func51, Tryz.ntmps51
 go_wp2
 go_loopg [0, 3] s.size (fun g sv av wr => ∃ (k : Nat) (t : OA) (e : Nat) (a : Nat) (r : ByteArray), sv = .string r ∧ av = .slice t (dig B32 a).length e ∧ g + k = s.size ∧ r.size + k = s.size ∧ Hid (a0b r = (a0b s).drop k) ∧ Hid (a = a0l ((a0b s).take k)) ∧
     Own wr w.heap.size .u32 101 t e (dig B32 a) ∧ Below w.heap.size w wr)
 case atStart => exact ⟨0, none, 0, 0, s, rfl, by rw [a0c]; rfl, by omega, by omega, rfl, (show 0 = a0l (List.take 0 _) by simp [a0l]), by rw [a0c]; exact Own.nil _ _ _ _, Below.refl _ _⟩
 case round =>
  obtain ⟨k, t, e, a, r, rfl, rfl, hg, hk, HB, HA, hoq, hb⟩ := hrel
  have hal : (dig B32 a).length ≤ k := by
   rw [HA.out, a0h a0a]
   have h1 := g0k ((a0b s).take k) (fun j hj => by rw [List.length_take, HT.out] at hj; rw [f0g (by omega)]; exact (HD.out j (by omega)).2)
   rw [List.length_take, HT.out, Nat.min_eq_left (by omega)] at h1
   exact Nat.lt_of_lt_of_le h1 (Nat.pow_le_pow_left (by unfold B32; omega) k)
  by_cases hr0 : 0 < r.size
  · by_cases h9 : 9 ≤ r.size
    · have hcl : (r.extract 0 9).size = 9 := by rw [ByteArray.size_extract]; omega
      have hcb := hi0 (show a0b (r.extract 0 9) = ((a0b s).drop k).take 9 by rw [d0g, List.drop_zero, HB.out])
      have hrb := hi0 (show a0b (r.extract 9 r.size) = (a0b s).drop (k + 9) by rw [d0g, ← a0q r, List.take_length, HB.out, List.drop_drop])
      have hrs : (r.extract 9 r.size).size + 9 = r.size := by rw [ByteArray.size_extract]; omega
      have HN := hi0 (show a0l ((a0b s).take (k + 9)) = a * 10 ^ 9 + a0l (((a0b s).drop k).take 9) by rw [HA.out]; exact o0w _ _ _ (by rw [HT.out]; omega))
      have HC := hi0 (show ∀ j, j < 9 → 48 ≤ dg (((a0b s).drop k).take 9) j ∧ dg (((a0b s).drop k).take 9) j ≤ 57 from fun j hj => by
        rw [f0g hj, f0h]; exact HD.out (k + j) (by omega))
      have HCL := hi0 (show (((a0b s).drop k).take 9).length = 9 by rw [List.length_take, List.length_drop, HT.out]; omega)
      generalize hch : ((a0b s).drop k).take 9 = ch at *
      obtain ⟨r2, hrn⟩ : ∃ r2, r2 = r.extract 9 r.size := ⟨_, rfl⟩
      rw [← hrn] at hrb hrs
      have HRE := hi0 hrn
      have hrl := Nat.le_of_eq hrs
      have hrl2 := Nat.le_of_eq hrs.symm
      clear hch hrn hrs
      have hmn : min (9 : Int) (r.size : Int) = 9 := by omega
      have hmk : min 9 r.size = 9 := by omega
      go_wp2_with (refine v0i rfl _ _ _ (by rfl) g1q n1o s1q _ (by rfl) ?_; intro p2 c2 w2 hr2 hb2)
      try simp only [hmn, Int.toNat_natCast, Int.toNat_ofNat, hmk] at hr2
      try simp only [hmn, Int.toNat_natCast, Int.toNat_ofNat, hmk]
      clear hmn hmk
      try rw [hcl]
      first | rw [hcb.out] at hr2 | (have hcb2 := hcb.out; rw [show r.extract 0 r.size = r by simp] at hcb2; rw [hcb2] at hr2)
      have hs2 := hr2.solid
      rw [HCL.out] at hs2
      go_loop [5, 6, 22] (fun dv tv iv => ∃ (i d t : Nat), iv = .int .i64 i ∧ dv = .int .u64 d ∧ tv = .int .u64 t ∧ i ≤ 9 ∧ d < 1000000000 ∧ t ≤ 1000000000 ∧ Hid (d = a0l (ch.take i)) ∧ Hid (t = 10 ^ i)) (fun _ _ iv => 9 - (intOf iv).toNat)
      case atStart => exact ⟨0, 0, 1, rfl, rfl, rfl, Nat.zero_le _, by omega, by omega, (show 0 = a0l (List.take 0 _) by simp [a0l]), (show 1 = 10 ^ 0 from rfl)⟩
      case round =>
       obtain ⟨i, d, ten, rfl, rfl, rfl, hi, hd9, ht9, HD2, HT2⟩ := hrel
       by_cases hin : i < 9
       · have hc1 := hr2.cells i (by rw [HCL.out]; exact hin)
         obtain ⟨hv1, hv2⟩ := HC.out i hin
         obtain ⟨v, hv⟩ : ∃ v, dg ch i = v + 48 := ⟨dg ch i - 48, by omega⟩
         have HN2 : Hid (10 * d + v = a0l (ch.take (i + 1))) := by
          show _ = _
          rw [e0i _ _ (by rw [HCL.out]; exact hin), ← HD2.out, hv]; omega
         have HT3 : Hid (10 * ten = 10 ^ (i + 1)) := by show _ = _; rw [HT2.out, Nat.pow_succ]; omega
         have hdb : 10 * d + v < 1000000000 := by
          rw [HN2.out]
          have h1 := g0k (ch.take (i + 1)) (fun j hj => by rw [List.length_take, HCL.out] at hj; rw [f0g (by omega)]; exact (HC.out j (by omega)).2)
          rw [List.length_take, HCL.out, Nat.min_eq_left (by omega)] at h1
          exact Nat.lt_of_lt_of_le h1 (Nat.pow_le_pow_right (by omega) (show i + 1 ≤ 9 by omega))
         have htb : 10 * ten ≤ 1000000000 := by
          rw [HT3.out]; exact Nat.pow_le_pow_right (show 0 < 10 by omega) (show i + 1 ≤ 9 by omega)
         rw [hv] at hc1
         have hv9 : v ≤ 9 := by omega
         clear hv hv1 hv2
         go_wp2
         go_round
         case rel => exact ⟨i + 1, 10 * d + v, 10 * ten, by go_num, by go_num, by go_num, hin, hdb, htb, HN2, HT3⟩
         case measure => simp [intOf]; omega
       · obtain rfl : i = 9 := by omega
         have HD3 := hi0 (show d = a0l ch by rw [HD2.out, List.take_of_length_le (by rw [HCL.out]; exact Nat.le_refl _)])
         have htp : 1 ≤ ten := by rw [HT2.out]; exact Nat.pow_pos (by omega)
         have HE := hi0 (show a0l ((a0b s).take (k + 9)) = a * ten + d by rw [HN.out, ← HT2.out, ← HD3.out])
         have H0 := hi0 (m0w.start (b0d a0a a) ten d)
         go_wp2
         go_loopw [5, 40] (fun dv iv w3 => ∃ (i d2 : Nat) (L : List Nat), iv = .int .i64 i ∧ dv = .int .u64 d2 ∧ d2 < 4294967296 ∧ i ≤ (dig B32 a).length ∧ Hid (L.length = (dig B32 a).length) ∧ Own w3 w.heap.size .u32 101 t e L ∧ Below w.heap.size w w3 ∧ Hid (m0w L (dig B32 a) ten d i d2))
          (fun _ iv _ => (dig B32 a).length - (intOf iv).toNat)
         case atStart => exact ⟨0, d, _, rfl, rfl, by omega, Nat.zero_le _, rfl, hoq.past hb2, hb.trans (hb2.mono hb.size), H0⟩
         case round =>
          obtain ⟨i, d2, L, rfl, rfl, hd2, hi2, hL, hoL, hb3, HR⟩ := hrel
          have hsL := hoL.solid
          rw [hL.out] at hsL
          by_cases hin2 : i < (dig B32 a).length
          · have hc1 := hoL.rd.cells i (by rw [hL.out]; exact hin2)
            rw [HR.out.2.2.1 i (Nat.le_refl _)] at hc1
            have hxd := a0n (B := 4294967296) (by omega) _ (b0d a0a a) i
            generalize hx : dg (dig B32 a) i = x at *
            have hpm := Nat.mul_le_mul (show x ≤ 4294967295 by omega) ht9
            obtain ⟨u, hu⟩ : ∃ u, u = x * ten + d2 := ⟨_, rfl⟩
            have hub : u < 18446744073709551616 := by omega
            have hub2 : u / 4294967296 < 4294967296 := by omega
            have HS := hi0 (HR.out.step hin2 u (by rw [hx]; exact hu))
            have eu : (x : Int) * (ten : Int) + (d2 : Int) = (u : Nat) := by rw [hu]; simp
            have em : (x : Int) * (ten : Int) < 18446744073709551616 := by
             have : ((x * ten : Nat) : Int) = (x : Int) * (ten : Int) := by simp
             rw [← this]; omega
            have em0 : 0 ≤ (x : Int) * (ten : Int) := by
             have : ((x * ten : Nat) : Int) = (x : Int) * (ten : Int) := by simp
             rw [← this]; omega
            clear hu hx hpm
            go_wp2_with (refine a0y rfl _ _ _ rfl 101 c0c _ _ _ _ hoL i (by rw [hL.out]; exact hin2) _ ?_ rfl rfl ?_; omega; intro w5 ho5 hg5 hb5)
            have e6 : ((u : Int) % 4294967296).toNat = u % B32 := by unfold B32; omega
            rw [e6] at ho5
            go_roundw
            case rel => exact ⟨i + 1, u / B32, _, by go_num, (by unfold B32; go_num), (by unfold B32; exact hub2), hin2, (by show (List.set _ _ _).length = _; rw [List.length_set]; exact hL.out), ho5, hb3.trans hb5, HS⟩
            case measure => simp [intOf]; omega
          · obtain rfl : i = (dig B32 a).length := by omega
            by_cases hd0 : 0 < d2
            · have HF := hi0 (HR.out.done1 hd0 (by unfold B32; exact hd2))
              go_wp2_with (first
                | (refine a0r rfl _ _ rfl c0c _ ?_ rfl ?_; omega; intro p6 w6 ho6 hb6 hz6 hp6)
                | (at_builtin; refine a0z rfl _ _ _ rfl c0c _ _ _ _ _ (hoL.past hb6) hL.out.symm _ _ _ _ ho6.rd rfl rfl rfl ?_ ?_ ?_; (rw [hL.out]; simp; omega); (have := hb6.size; have := hb3.size; omega); intro p7 c7 w7 ho7 hg7 hb7 hn7))
              rw [Int.toNat_natCast] at ho7
              have hb8 := hb3.trans ((hb6.mono hb3.size).trans hb7)
              have hln := hi0 (show (L ++ [((d2 : Int)).toNat]).length = (dig B32 (a * ten + d)).length by rw [← HF.out]; simp)
              rw [HF.out] at ho7
              go_roundg (s.size - (k + 9))
              case measure => omega
              case rel => exact ⟨k + 9, p7, c7, a * ten + d, r2, (by rw [HRE.out]; try simp), (by rw [← HF.out]; simp), by omega, by omega, hrb, (show _ = _ from HE.out.symm), ho7, hb8⟩
            · obtain rfl : d2 = 0 := by omega
              have HF := hi0 (HR.out.done0 htp)
              have hF2 := hL.out
              rw [HF.out] at hoL
              go_wp2
              go_roundg (s.size - (k + 9))
              case measure => omega
              case rel => exact ⟨k + 9, t, e, a * ten + d, r2, (by rw [HRE.out]; try simp), (by rw [← HF.out, hL.out]), by omega, by omega, hrb, (show _ = _ from HE.out.symm), hoL, hb3⟩
    · have h9' : r.size ≤ 8 := by omega
      clear h9
      have hcl : (r.extract 0 r.size).size = r.size := by rw [ByteArray.size_extract]; omega
      have hcb := hi0 (show a0b (r.extract 0 r.size) = ((a0b s).drop k).take r.size by rw [d0g, List.drop_zero, HB.out])
      have hrb := hi0 (show a0b (r.extract r.size r.size) = (a0b s).drop (k + r.size) by rw [d0g, ← a0q r, List.take_length, HB.out, List.drop_drop])
      have hrs : (r.extract r.size r.size).size + r.size = r.size := by rw [ByteArray.size_extract]; omega
      have HN := hi0 (show a0l ((a0b s).take (k + r.size)) = a * 10 ^ r.size + a0l (((a0b s).drop k).take r.size) by rw [HA.out]; exact o0w _ _ _ (by rw [HT.out]; omega))
      have HC := hi0 (show ∀ j, j < r.size → 48 ≤ dg (((a0b s).drop k).take r.size) j ∧ dg (((a0b s).drop k).take r.size) j ≤ 57 from fun j hj => by
        rw [f0g hj, f0h]; exact HD.out (k + j) (by omega))
      have HCL := hi0 (show (((a0b s).drop k).take r.size).length = r.size by rw [List.length_take, List.length_drop, HT.out]; omega)
      generalize hch : ((a0b s).drop k).take r.size = ch at *
      obtain ⟨r2, hrn⟩ : ∃ r2, r2 = r.extract r.size r.size := ⟨_, rfl⟩
      rw [← hrn] at hrb hrs
      have HRE := hi0 hrn
      have hrl := Nat.le_of_eq hrs
      have hrl2 := Nat.le_of_eq hrs.symm
      clear hch hrn hrs
      have hmn : min (9 : Int) (r.size : Int) = (r.size : Int) := by omega
      have hmk : min r.size r.size = r.size := by omega
      go_wp2_with (refine v0i rfl _ _ _ (by rfl) g1q n1o s1q _ (by rfl) ?_; intro p2 c2 w2 hr2 hb2)
      try simp only [hmn, Int.toNat_natCast, Int.toNat_ofNat, hmk] at hr2
      try simp only [hmn, Int.toNat_natCast, Int.toNat_ofNat, hmk]
      clear hmn hmk
      try rw [hcl]
      first | rw [hcb.out] at hr2 | (have hcb2 := hcb.out; rw [show r.extract 0 r.size = r by simp] at hcb2; rw [hcb2] at hr2)
      have hs2 := hr2.solid
      rw [HCL.out] at hs2
      go_loop [5, 6, 22] (fun dv tv iv => ∃ (i d t : Nat), iv = .int .i64 i ∧ dv = .int .u64 d ∧ tv = .int .u64 t ∧ i ≤ r.size ∧ d < 1000000000 ∧ t ≤ 1000000000 ∧ Hid (d = a0l (ch.take i)) ∧ Hid (t = 10 ^ i)) (fun _ _ iv => r.size - (intOf iv).toNat)
      case atStart => exact ⟨0, 0, 1, rfl, rfl, rfl, Nat.zero_le _, by omega, by omega, (show 0 = a0l (List.take 0 _) by simp [a0l]), (show 1 = 10 ^ 0 from rfl)⟩
      case round =>
       obtain ⟨i, d, ten, rfl, rfl, rfl, hi, hd9, ht9, HD2, HT2⟩ := hrel
       by_cases hin : i < r.size
       · have hc1 := hr2.cells i (by rw [HCL.out]; exact hin)
         obtain ⟨hv1, hv2⟩ := HC.out i hin
         obtain ⟨v, hv⟩ : ∃ v, dg ch i = v + 48 := ⟨dg ch i - 48, by omega⟩
         have HN2 : Hid (10 * d + v = a0l (ch.take (i + 1))) := by
          show _ = _
          rw [e0i _ _ (by rw [HCL.out]; exact hin), ← HD2.out, hv]; omega
         have HT3 : Hid (10 * ten = 10 ^ (i + 1)) := by show _ = _; rw [HT2.out, Nat.pow_succ]; omega
         have hdb : 10 * d + v < 1000000000 := by
          rw [HN2.out]
          have h1 := g0k (ch.take (i + 1)) (fun j hj => by rw [List.length_take, HCL.out] at hj; rw [f0g (by omega)]; exact (HC.out j (by omega)).2)
          rw [List.length_take, HCL.out, Nat.min_eq_left (by omega)] at h1
          exact Nat.lt_of_lt_of_le h1 (Nat.pow_le_pow_right (by omega) (show i + 1 ≤ 9 by omega))
         have htb : 10 * ten ≤ 1000000000 := by
          rw [HT3.out]; exact Nat.pow_le_pow_right (show 0 < 10 by omega) (show i + 1 ≤ 9 by omega)
         rw [hv] at hc1
         have hv9 : v ≤ 9 := by omega
         clear hv hv1 hv2
         go_wp2
         go_round
         case rel => exact ⟨i + 1, 10 * d + v, 10 * ten, by go_num, by go_num, by go_num, hin, hdb, htb, HN2, HT3⟩
         case measure => simp [intOf]; omega
       · obtain rfl : i = r.size := by omega
         have HD3 := hi0 (show d = a0l ch by rw [HD2.out, List.take_of_length_le (by rw [HCL.out]; exact Nat.le_refl _)])
         have htp : 1 ≤ ten := by rw [HT2.out]; exact Nat.pow_pos (by omega)
         have HE := hi0 (show a0l ((a0b s).take (k + r.size)) = a * ten + d by rw [HN.out, ← HT2.out, ← HD3.out])
         have H0 := hi0 (m0w.start (b0d a0a a) ten d)
         go_wp2
         go_loopw [5, 40] (fun dv iv w3 => ∃ (i d2 : Nat) (L : List Nat), iv = .int .i64 i ∧ dv = .int .u64 d2 ∧ d2 < 4294967296 ∧ i ≤ (dig B32 a).length ∧ Hid (L.length = (dig B32 a).length) ∧ Own w3 w.heap.size .u32 101 t e L ∧ Below w.heap.size w w3 ∧ Hid (m0w L (dig B32 a) ten d i d2))
          (fun _ iv _ => (dig B32 a).length - (intOf iv).toNat)
         case atStart => exact ⟨0, d, _, rfl, rfl, by omega, Nat.zero_le _, rfl, hoq.past hb2, hb.trans (hb2.mono hb.size), H0⟩
         case round =>
          obtain ⟨i, d2, L, rfl, rfl, hd2, hi2, hL, hoL, hb3, HR⟩ := hrel
          have hsL := hoL.solid
          rw [hL.out] at hsL
          by_cases hin2 : i < (dig B32 a).length
          · have hc1 := hoL.rd.cells i (by rw [hL.out]; exact hin2)
            rw [HR.out.2.2.1 i (Nat.le_refl _)] at hc1
            have hxd := a0n (B := 4294967296) (by omega) _ (b0d a0a a) i
            generalize hx : dg (dig B32 a) i = x at *
            have hpm := Nat.mul_le_mul (show x ≤ 4294967295 by omega) ht9
            obtain ⟨u, hu⟩ : ∃ u, u = x * ten + d2 := ⟨_, rfl⟩
            have hub : u < 18446744073709551616 := by omega
            have hub2 : u / 4294967296 < 4294967296 := by omega
            have HS := hi0 (HR.out.step hin2 u (by rw [hx]; exact hu))
            have eu : (x : Int) * (ten : Int) + (d2 : Int) = (u : Nat) := by rw [hu]; simp
            have em : (x : Int) * (ten : Int) < 18446744073709551616 := by
             have : ((x * ten : Nat) : Int) = (x : Int) * (ten : Int) := by simp
             rw [← this]; omega
            have em0 : 0 ≤ (x : Int) * (ten : Int) := by
             have : ((x * ten : Nat) : Int) = (x : Int) * (ten : Int) := by simp
             rw [← this]; omega
            clear hu hx hpm
            go_wp2_with (refine a0y rfl _ _ _ rfl 101 c0c _ _ _ _ hoL i (by rw [hL.out]; exact hin2) _ ?_ rfl rfl ?_; omega; intro w5 ho5 hg5 hb5)
            have e6 : ((u : Int) % 4294967296).toNat = u % B32 := by unfold B32; omega
            rw [e6] at ho5
            go_roundw
            case rel => exact ⟨i + 1, u / B32, _, by go_num, (by unfold B32; go_num), (by unfold B32; exact hub2), hin2, (by show (List.set _ _ _).length = _; rw [List.length_set]; exact hL.out), ho5, hb3.trans hb5, HS⟩
            case measure => simp [intOf]; omega
          · obtain rfl : i = (dig B32 a).length := by omega
            by_cases hd0 : 0 < d2
            · have HF := hi0 (HR.out.done1 hd0 (by unfold B32; exact hd2))
              go_wp2_with (first
                | (refine a0r rfl _ _ rfl c0c _ ?_ rfl ?_; omega; intro p6 w6 ho6 hb6 hz6 hp6)
                | (at_builtin; refine a0z rfl _ _ _ rfl c0c _ _ _ _ _ (hoL.past hb6) hL.out.symm _ _ _ _ ho6.rd rfl rfl rfl ?_ ?_ ?_; (rw [hL.out]; simp; omega); (have := hb6.size; have := hb3.size; omega); intro p7 c7 w7 ho7 hg7 hb7 hn7))
              rw [Int.toNat_natCast] at ho7
              have hb8 := hb3.trans ((hb6.mono hb3.size).trans hb7)
              have hln := hi0 (show (L ++ [((d2 : Int)).toNat]).length = (dig B32 (a * ten + d)).length by rw [← HF.out]; simp)
              rw [HF.out] at ho7
              go_roundg (s.size - (k + r.size))
              case measure => omega
              case rel => exact ⟨k + r.size, p7, c7, a * ten + d, r2, (by rw [HRE.out]; try simp), (by rw [← HF.out]; simp), by omega, by omega, hrb, (show _ = _ from HE.out.symm), ho7, hb8⟩
            · obtain rfl : d2 = 0 := by omega
              have HF := hi0 (HR.out.done0 htp)
              have hF2 := hL.out
              rw [HF.out] at hoL
              go_wp2
              go_roundg (s.size - (k + r.size))
              case measure => omega
              case rel => exact ⟨k + r.size, t, e, a * ten + d, r2, (by rw [HRE.out]; try simp), (by rw [← HF.out, hL.out]), by omega, by omega, hrb, (show _ = _ from HE.out.symm), hoL, hb3⟩
  · have hk1 : k = s.size := by omega
    have HE := hi0 (show a = a0l (a0b s) by rw [HA.out, List.take_of_length_le (by rw [HT.out]; omega)])
    clear hk1
    go_wp2
    go_ret
    rw [← HE.out]
    exact ⟨t, e, rfl, hoq, hb⟩
theorem s1r {x y : Nat} (hx : x < 65536) (hy : y < 65536) : (x : Int) * y ≤ 4294836225 ∧ 0 ≤ (x : Int) * y := by
 have h : x * y ≤ 65535 * 65535 := Nat.mul_le_mul (by omega) (by omega)
 have e : (x : Int) * y = ((x * y : Nat) : Int) := by simp
 rw [e]; omega
theorem g0n (p q : OA) (n m c d : Nat) (a b : Nat) (w : World) (hp : Rd w .i64 p (dig B16 a)) (hq : Rd w .i64 q (dig B16 b)) (hn : n = (dig B16 a).length) (hm : m = (dig B16 b).length)
 (hl : (dig B16 a).length + (dig B16 b).length ≤ 1000000000) :
 Calls Tryz.prog 64 #[.slice p n c, .slice q m d] w (e0n w .i64 (dig B16 (a * b))) := by
 subst hn hm
 have HA := hi0 (b0a a0e a)
 have HB := hi0 (b0a a0e b)
 have HXL := hi0 (b0d a0e a)
 have HYL := hi0 (b0d a0e b)
 generalize dig B16 a = xs at hp hl HA HXL ⊢
 generalize dig B16 b = ys at hq hl HB HYL ⊢
 have hsx := hp.solid
 have hsy := hq.solid
 go_enter Tryz.func64, Tryz.ntmps64
 go_wp2_with (refine h0s rfl _ _ _ rfl tyN .i64 .i64 (xs.length + ys.length) _ _ rfl rfl ?_ ?_ ?_ ?_; omega; omega; omega; intro p1 c1 w1 ho1 hb1 hz1)
 go_loopw [6] (fun iv wr => ∃ (i : Nat) (L : List Nat), iv = .int .i64 i ∧ i ≤ xs.length ∧ Hid (L.length = xs.length + ys.length) ∧ Own wr w.heap.size .i64 3 p1 c1 L ∧ Below w.heap.size w wr ∧ Hid (g0i B16 L xs ys i))
  (fun iv _ => xs.length - (intOf iv).toNat)
 case atStart => exact ⟨0, _, rfl, Nat.zero_le _, List.length_replicate, ho1, hb1, g0i.start B16 g0a xs ys _⟩
 case round =>
  obtain ⟨i, L, rfl, hi, hL, hoL, hbL, HR⟩ := hrel
  by_cases hlt : i < xs.length
  · have hxd := a0n (B := 65536) (by omega) xs HXL.out i
    go_wp2
    obtain ⟨wo, rfl⟩ : ∃ wo : World, wo = wr := ⟨_, rfl⟩
    go_loopw [7, 8, 9] (fun cv kv _ wr => ∃ (k cr : Nat) (L : List Nat), kv = .int .i64 k ∧ cv = .int .i64 cr ∧ k ≤ ys.length + 1 ∧ cr < 65536 ∧ Hid (L.length = xs.length + ys.length) ∧ Own wr w.heap.size .i64 3 p1 c1 L ∧ Below w.heap.size w wr ∧ Hid (e0p L xs ys i k cr))
     (fun _ kv _ _ => ys.length + 1 - (intOf kv).toNat)
    case atStart => exact ⟨0, 0, L, rfl, rfl, Nat.zero_le _, by omega, hL, hoL, hbL, .inl ⟨Nat.zero_le _, HR.out.enter⟩⟩
    case round =>
     obtain ⟨k, cr, L, rfl, rfl, hk, hcr, hL, hoL, hbL, HR⟩ := hrel
     have hpL := hp.past hbL
     have hqL := hq.past hbL
     have hsL := hoL.solid
     rw [hL.out] at hsL
     by_cases hkt : k < ys.length
     · have hc1 := hpL.cells i hlt
       have hc2 := hqL.cells k hkt
       have hc3 := hoL.rd.cells (i + k) (by rw [hL.out]; omega)
       have hyd := a0n (B := 65536) (by omega) ys HYL.out k
       have hLd := a0n (B := 65536) (by omega) L HR.out.digits (i + k)
       obtain ⟨hpr, hpr0⟩ := s1r hxd hyd
       have HS := hi0 (HR.out.step hkt (by rw [hL.out]; omega))
       have HC := hi0 (HR.out.carry hcr hxd hyd)
       have i0 : (0 : Int) ≤ (i : Int) := by omega
       have i1 : (i : Int) < (xs.length : Int) := by omega
       have k0 : (0 : Int) ≤ (k : Int) := by omega
       have k1 : (k : Int) < (ys.length : Int) := by omega
       go_wp2_with fail
       go_quiet (fail)
       have hoL := hoL.drewN nq
       have hbL := below_drewN hbL nq
       generalize wr.drewN nq = wq at hoL hbL ⊢
       clear hc1 hc2 hc3 hpL hqL
       go_wp2_with (refine a0y rfl _ _ _ rfl 3 tyN _ _ _ _ hoL (i + k) (by rw [hL.out]; omega) _ ?_ rfl rfl ?_; omega; intro w3 ho3 hg3 hb3)
       have e3 : (((dg L (i + k) : Int) + cr + dg xs i * dg ys k) % 65536).toNat = (dg L (i + k) + cr + dg xs i * dg ys k) % 65536 := by omega
       rw [e3] at ho3
       go_roundw
       case rel => exact ⟨k + 1, (dg L (i + k) + cr + dg xs i * dg ys k) / 65536, _, by go_num, by go_num, by omega, HC.out, (by show (List.set _ _ _).length = _; rw [List.length_set]; exact hL.out), ho3, hbL.trans hb3, HS⟩
       case measure => simp [intOf]; omega
     · by_cases h0 : 0 < cr
       · obtain ⟨hk2, hz, HS⟩ := HR.out.over hkt h0 hcr (by rw [hL.out]; omega)
         subst hk2
         have hc3 := hoL.rd.cells (i + ys.length) (by rw [hL.out]; omega)
         rw [hz] at hc3
         have HS := hi0 HS
         clear hz hkt
         go_wp2_with (refine a0y rfl _ _ _ rfl 3 tyN _ _ _ _ hoL (i + ys.length) (by rw [hL.out]; omega) _ ?_ rfl rfl ?_; omega; intro w3 ho3 hg3 hb3)
         have e3 : ((cr : Int) % 65536).toNat = cr := by omega
         rw [e3] at ho3
         go_roundw
         case rel => exact ⟨ys.length + 1, 0, _, by go_num, (by rw [show (cr : Int) / 65536 = ((0 : Nat) : Int) by omega]), by omega, by omega, (by show (List.set _ _ _).length = _; rw [List.length_set]; exact hL.out), ho3, hbL.trans hb3, HS⟩
         case measure => simp [intOf]
       · obtain rfl : cr = 0 := by omega
         have HS := hi0 (HR.out.done hkt)
         go_wp2
         go_roundw
         case rel => exact ⟨i + 1, L, by go_num, hlt, hL, hoL, hbL, HS⟩
         case measure => simp [intOf]; omega
  · obtain rfl : i = xs.length := by omega
    go_wp2_with (go_at_call 115; refine (d0z _ _ _ L _ hoL.rd hL.out.symm hoL.le_cap HR.out.1 (by rw [hL.out]; omega)).mono ?_; rintro e w3 ⟨rfl, rfl⟩)
    go_ret
    rw [← HR.out.done (Nat.le_refl _) HA.out HB.out]
    have ht := b0c a0e L HR.out.1
    have ho2 := hoL.take (dig B16 (val B16 L)).length
    rw [ht] at ho2
    exact ⟨p1, _, rfl, ho2.rd, Nat.le_refl _, j0a ho2, hbL⟩
def y0q (w : World) (k : IntKind) (xs ys : List Nat) (en : Ending) (w' : World) : Prop :=
 ∃ p c q d, en = .returned (.tuple #[.slice p xs.length c, .slice q ys.length d]) ∧ Rd w' k p xs ∧ xs.length ≤ c ∧ (0 < xs.length → w.heap.size ≤ blk p) ∧ Rd w' k q ys ∧ ys.length ≤ d ∧ (0 < ys.length → w.heap.size ≤ blk q) ∧ Below w.heap.size w w'
theorem h0l {B d : Nat} (hB : 2 ≤ B) (h0 : 0 < d) (h : d < B) : dig B d = [d] := by
 rw [c0d hB h0, Nat.div_eq_of_lt h, a0c, Nat.mod_eq_of_lt h]
theorem q0l {B d : Nat} (hB : 2 ≤ B) (h : (dig B d).length = 1) : 0 < d ∧ d < B := by
 have h1 := (a0h hB d 1).1 (by omega)
 rw [Nat.pow_one] at h1
 refine ⟨?_, h1⟩
 rcases Nat.eq_zero_or_pos d with h0 | h0
 · rw [h0, a0c] at h; simp at h
 · exact h0
theorem g1s (B r : Nat) : val B [r] = r := by simp
theorem p0h (p q : OA) (n m c e0 : Nat) (a d : Nat) (w : World) (hp : Rd w .i64 p (dig B16 a)) (hq : Rd w .i64 q [d]) (hn : n = (dig B16 a).length) (hm : m = 1)
 (hl : (dig B16 a).length ≤ 1000000000) (hd0 : 0 < d) (hd1 : d < 65536) :
 Calls Tryz.prog 71 #[.slice p n c, .slice q m e0] w (y0q w .i64 (dig B16 (a / d)) (dig B16 (a % d))) := by
 subst hn hm
 have HA := hi0 (b0a a0e a)
 have HXL := hi0 (b0d a0e a)
 generalize dig B16 a = xs at *
 have hsx := hp.solid
 have hsq := hq.solid
 simp only [List.length_singleton] at hsq
 have hcd : w.cell? (at_ q 0) = some (.int .i64 (d : Nat)) := hq.cells 0 (by simp)
 go_enter Tryz.func71, Tryz.ntmps71
 go_wp2_with (refine h0s rfl _ _ _ rfl tyN .i64 .i64 xs.length _ _ rfl rfl ?_ ?_ ?_ ?_; omega; omega; omega; intro p1 c1 w1 ho1 hb1 hz1)
 go_loopw [7, 8] (fun rv iv wr => ∃ (k r : Nat) (L : List Nat), iv = .int .i64 ((k : Int) - 1) ∧ rv = .int .i64 r ∧ k ≤ xs.length ∧ r < d ∧ Hid (L.length = xs.length) ∧ Own wr w.heap.size .i64 3 p1 c1 L ∧ Below w.heap.size w wr ∧ Hid (SmallRel B16 L xs d k r))
  (fun _ iv _ => (intOf iv + 1).toNat)
 case atStart => exact ⟨xs.length, 0, _, rfl, rfl, Nat.le_refl _, hd0, List.length_replicate, ho1, hb1, (show SmallRel B16 _ xs d xs.length 0 from ⟨fun x hx => by rw [(List.mem_replicate.1 hx).2]; exact g0a, hd0, by simp⟩)⟩
 case round =>
  obtain ⟨k, r, L, rfl, rfl, hk, hrd, hL, hoL, hbL, HR⟩ := hrel
  have hpL := hp.past hbL
  have hsL := hoL.solid
  rw [hL.out] at hsL
  by_cases h0 : 0 < k
  · obtain ⟨k, rfl⟩ : ∃ j, k = j + 1 := ⟨k - 1, by omega⟩
    have hc1 := hpL.cells k (by omega)
    have hxd := a0n (B := 65536) (by omega) xs HXL.out k
    obtain ⟨HS, HQ⟩ := HR.out.step (by omega) (by rw [hL.out]; omega) (by unfold B16; exact hxd)
    have HS := hi0 HS
    have ej : ((k + 1 : Nat) : Int) - 1 = k := by omega
    rw [ej]
    unfold B16 at HQ
    obtain ⟨t, ht⟩ : ∃ t, t = r * 65536 + dg xs k := ⟨_, rfl⟩
    have et : 65536 * (r : Int) + (dg xs k : Nat) = (t : Nat) := by omega
    have htb : t < 4294967296 := by omega
    rw [← ht] at HQ
    have HT := hi0 ht
    have k0 : (0 : Int) ≤ (k : Int) := by omega
    have k1 : (k : Int) < (xs.length : Int) := by omega
    clear ht
    have hcd2 : wr.cell? (at_ q 0) = some (.int .i64 (d : Nat)) := (hq.past hbL).cells 0 (by simp)
    go_wp2_with fail
    clear hc1 ej et
    have e2 : ¬ d = 0 := by omega
    have hqe : ((t / d : Nat) : Int) = (t : Int) / (d : Int) := rfl
    have hql := Nat.div_le_self t d
    have hq0 : (0 : Int) ≤ (t : Int) / (d : Int) := Int.ediv_nonneg (by omega) (by omega)
    have hq1 : (t : Int) / (d : Int) < 4294967296 := by have : ((t / d : Nat) : Int) = (t : Int) / (d : Int) := rfl; omega
    clear hqe hql
    have e3 : IntKind.i64.wrap ((t : Int) / (d : Int)) = (t : Int) / (d : Int) := iwo
    have e5 : (t : Int).tmod (d : Int) = (t : Int) % (d : Int) := Int.tmod_eq_emod_of_nonneg (by omega)
    have hcL := hoL.rd.cells k (by rw [hL.out]; omega)
    have hfL := e0q hoL k (by rw [hL.out]; omega)
    go_region
    obtain ⟨ho3, hg3, hb3⟩ := f0t hoL k (by rw [hL.out]; omega) (t / d)
    clear e2 e3 e5 hcL hfL
    have hb3 := hbL.trans (c0i hg3 hbL.size (fun j hj => by cases hj; exact hb3))
    have ho3 := ho3.drew
    have hb3 := hb3.drew
    have eq : ((t / d : Nat) : Int) = (t : Int) / (d : Int) := rfl
    rw [eq] at ho3 hb3 hg3
    generalize (wr.setCell (at_ p1 k) (.int .i64 ((t : Int) / (d : Int)))).drew = w3 at ho3 hb3 ⊢
    clear eq hg3
    go_wp2
    go_roundw
    case rel =>
     have e6 : r * B16 + dg xs k = t := by rw [HT.out]; rfl
     rw [e6] at HS
     exact ⟨k, t % d, _, rfl, rfl, by omega, Nat.mod_lt _ hd0, (by show (List.set _ _ _).length = _; rw [List.length_set]; exact hL.out), ho3, hb3, HS⟩
    case measure => first | (simp [intOf]; done) | (simp [intOf]; omega)
  · obtain rfl : k = 0 := by omega
    obtain ⟨hv, hm⟩ := HR.out.done HA.out
    have HM := hi0 hm
    have HV := hi0 hv
    clear hv hm
    have hX1 := hi0 (show ∀ x ∈ [r], x < B16 by simp; unfold B16; omega)
    go_wp2_with fail
    refine (d0z p1 xs.length c1 L _ hoL.rd hL.out.symm (by rw [hL.out]; exact hL.out ▸ hoL.le_cap) HR.out.1 (by rw [hL.out]; omega)).mono ?_
    rintro e w3 ⟨rfl, rfl⟩
    go_wp2_with (refine a0r rfl _ _ rfl tyN r (by omega) rfl ?_; intro p2 w2 ho2 hb2 hz2 hp2)
    rw [Int.toNat_natCast] at ho2
    refine (d0z p2 1 1 [r] _ ho2.rd rfl (Nat.le_refl _) hX1.out (by simp)).mono ?_
    rintro e w3 ⟨rfl, rfl⟩
    rw [HV.out, g1s, HM.out]
    go_wp2_with fail
    go_ret2
    have ht := b0c a0e L HR.out.1
    have ho3 := (hoL.past hb2).take (dig B16 (val B16 L)).length
    rw [ht, HV.out] at ho3
    have ht2 := b0c a0e [r] hX1.out
    have ho4 := ho2.take (dig B16 (val B16 [r])).length
    rw [ht2, g1s, HM.out] at ho4
    exact ⟨p1, _, p2, _, rfl, ho3.rd, Nat.le_refl _, j0a ho3, ho4.rd, Nat.le_refl _, fun h => Nat.le_trans hbL.size (j0a ho4 h), hbL.trans (hb2.mono hbL.size)⟩
def wiB (n m : Int) : Bool := decide (-m ≤ n) && decide (n ≤ m)
theorem j0t {n m : Int} (h1 : -m ≤ n) (h2 : n ≤ m) : wiB n m = true := by unfold wiB; simp [h1, h2]
theorem g0f {n m : Int} (h : n < -m ∨ m < n) : wiB n m = false := by
 unfold wiB
 rcases h with h | h
 · rw [decide_eq_false (by omega)]; rfl
 · rw [decide_eq_false (p := n ≤ m) (by omega)]; simp
theorem c0z (n m : Int) (w : World) (hm : -1000000000 ≤ m ∧ m ≤ 1000000000) :
 Calls Tryz.prog 110 #[.int .i64 n, .int .i64 m] w fun e w' => e = .returned (.bool (wiB n m)) ∧ w = w' := by
 obtain ⟨hm1, hm2⟩ := hm
 by_cases h1 : -m ≤ n
 · by_cases h2 : n ≤ m
   · rw [j0t h1 h2]
     go_enter Tryz.func110, Tryz.ntmps110
     go_wp2
     go_ret
     exact ⟨rfl, rfl⟩
   · rw [g0f (by omega)]
     go_enter Tryz.func110, Tryz.ntmps110
     go_wp2
     go_ret
     exact ⟨rfl, rfl⟩
 · rw [g0f (by omega)]
   go_enter Tryz.func110, Tryz.ntmps110
   go_wp2
   go_ret
   exact ⟨rfl, rfl⟩
theorem g1t (g : Gd) (w : World) :
 Calls Tryz.prog 39 #[.agg #[.int .i64 g.rad, .int .i64 g.digs, .int .i64 g.lo, .int .i64 g.hi, .bool g.grad]] w fun e w' => e = .returned (.int .i64 (wid g : Nat)) ∧ Below w.heap.size w w' := by
 obtain ⟨rad, digs, lo, hi, grad⟩ := g
 simp only
 unfold wid
 simp only
 have hb : Below w.heap.size w (w.alloc (.cells #[.int .i64 rad, .int .i64 digs, .int .i64 lo, .int .i64 hi, .bool grad] 44)) := c0p _ _
 by_cases h : rad = 16
 · subst h
   go_enter Tryz.func39, Tryz.ntmps39
   go_wp2
   go_ret
   exact ⟨by simp, hb⟩
 · have h1 : (rad == 16) = false := bFn h
   rw [if_neg h]
   clear h
   go_enter Tryz.func39, Tryz.ntmps39
   go_wp2
   go_ret
   exact ⟨rfl, hb⟩
theorem c1q {n : Int} {d : Nat} (hd : 1 ≤ d) (_h : n < 0) : -(((d : Int) - 1 - n) / d) = n / d := by
 have h1 := f0j n d hd
 have h2 := f0j ((d : Int) - 1 - n) d hd
 have hp : (0 : Int) < d := by omega
 generalize n / (d : Int) = x at *
 generalize ((d : Int) - 1 - n) / (d : Int) = y at *
 have h3 : (d : Int) * (x + y) < d := by rw [Int.mul_add]; omega
 have h4 : (d : Int) * (-1) < d * (x + y) := by rw [Int.mul_add]; omega
 have h5 := Int.lt_of_mul_lt_mul_left h4 (by omega)
 have h6 : (d : Int) * (x + y) < d * 1 := by omega
 have h7 := Int.lt_of_mul_lt_mul_left h6 (by omega)
 omega
theorem c1r (n : Int) (d : Nat) (w : World) (hn : -1000000000 ≤ n ∧ n ≤ 1000000000) (hd : 1 ≤ d) (hd2 : d ≤ 1000) :
 Calls Tryz.prog 41 #[.int .i64 n, .int .i64 d] w fun e w' => e = .returned (.int .i64 (n / (d : Int))) ∧ w = w' := by
 obtain ⟨hn1, hn2⟩ := hn
 have t1 : ((d : Int) == 0) = false := bFn (by omega)
 by_cases h : n < 0
 · have hq := Int.ediv_le_self (a := (d : Int) - 1 - n) (d : Int) (by omega)
   have hq0 := Int.ediv_nonneg (a := (d : Int) - 1 - n) (b := (d : Int)) (by omega) (by omega)
   rw [← c1q hd h]
   go_enter Tryz.func41, Tryz.ntmps41
   go_wp2
   go_ret
   exact ⟨rfl, rfl⟩
 · have hq := Int.ediv_le_self (a := n) (d : Int) (by omega)
   have hq0 := Int.ediv_nonneg (a := n) (b := (d : Int)) (by omega) (by omega)
   go_enter Tryz.func41, Tryz.ntmps41
   go_wp2
   go_ret
   exact ⟨rfl, rfl⟩
theorem t0v (g : Gd) (w : World) :
 Calls Tryz.prog 111 #[.agg #[.int .i64 g.rad, .int .i64 g.digs, .int .i64 g.lo, .int .i64 g.hi, .bool g.grad]] w fun e w' => e = .returned (.int .i64 (errG g)) ∧ Below w.heap.size w w' := by
 obtain ⟨rad, digs, lo, hi, grad⟩ := g
 unfold errG farG most
 simp only
 have hb : Below w.heap.size w (w.alloc (.cells #[.int .i64 rad, .int .i64 digs, .int .i64 lo, .int .i64 hi, .bool grad] 44)) := c0p _ _
 by_cases hr2 : rad = 2
 · subst hr2
   rw [if_neg (by omega)]
   simp only [show ¬ ((2 : Int) = 16) by omega, if_false]
   by_cases h1 : digs < 1
   · rw [if_pos (by omega)]
     go_enter Tryz.func111, Tryz.ntmps111
     go_wp2
     go_ret
     exact ⟨rfl, hb⟩
   · by_cases h2 : 120 < digs
     · rw [if_pos (by omega)]
       go_enter Tryz.func111, Tryz.ntmps111
       go_wp2
       go_ret
       exact ⟨rfl, hb⟩
     · by_cases h3 : lo < -17000 ∨ 17000 < lo
       · rw [if_pos (by omega)]
         have t3 := g0f h3
         clear h3
         go_enter Tryz.func111, Tryz.ntmps111
         go_wp2_with (go_at_call 110; refine (c0z _ _ _ (by omega)).mono ?_; rintro _ _ ⟨rfl, rfl⟩)
         go_ret
         exact ⟨rfl, hb⟩
       · have t3 := j0t (n := lo) (m := 17000) (by omega) (by omega)
         by_cases h4 : hi < -17000 ∨ 17000 < hi
         · rw [if_pos (by omega)]
           have t4 := g0f h4
           clear h3 h4
           go_enter Tryz.func111, Tryz.ntmps111
           go_wp2_with (go_at_call 110; refine (c0z _ _ _ (by omega)).mono ?_; rintro _ _ ⟨rfl, rfl⟩)
           go_ret
           exact ⟨rfl, hb⟩
         · have t4 := j0t (n := hi) (m := 17000) (by omega) (by omega)
           by_cases h5 : hi < lo
           · rw [if_pos (by omega)]
             clear h3 h4
             go_enter Tryz.func111, Tryz.ntmps111
             go_wp2_with (go_at_call 110; refine (c0z _ _ _ (by omega)).mono ?_; rintro _ _ ⟨rfl, rfl⟩)
             go_ret
             exact ⟨rfl, hb⟩
           · rw [if_neg (by omega)]
             clear h3 h4
             go_enter Tryz.func111, Tryz.ntmps111
             go_wp2_with (go_at_call 110; refine (c0z _ _ _ (by omega)).mono ?_; rintro _ _ ⟨rfl, rfl⟩)
             go_ret
             exact ⟨rfl, hb⟩
 · have u2 : (rad == 2) = false := bFn hr2
   have u2' : (rad != 2) = true := by rw [bne, u2]; rfl
   by_cases hr16 : rad = 16
   · subst hr16
     rw [if_neg (by omega)]
     simp only [if_true]
     by_cases h1 : digs < 1
     · rw [if_pos (by omega)]
       go_enter Tryz.func111, Tryz.ntmps111
       go_wp2
       go_ret
       exact ⟨rfl, hb⟩
     · by_cases h2 : 120 < digs
       · rw [if_pos (by omega)]
         go_enter Tryz.func111, Tryz.ntmps111
         go_wp2
         go_ret
         exact ⟨rfl, hb⟩
       · by_cases h3 : lo < -4000 ∨ 4000 < lo
         · rw [if_pos (by omega)]
           have t3 := g0f h3
           clear h3
           go_enter Tryz.func111, Tryz.ntmps111
           go_wp2_with (go_at_call 110; refine (c0z _ _ _ (by omega)).mono ?_; rintro _ _ ⟨rfl, rfl⟩)
           go_ret
           exact ⟨rfl, hb⟩
         · have t3 := j0t (n := lo) (m := 4000) (by omega) (by omega)
           by_cases h4 : hi < -4000 ∨ 4000 < hi
           · rw [if_pos (by omega)]
             have t4 := g0f h4
             clear h3 h4
             go_enter Tryz.func111, Tryz.ntmps111
             go_wp2_with (go_at_call 110; refine (c0z _ _ _ (by omega)).mono ?_; rintro _ _ ⟨rfl, rfl⟩)
             go_ret
             exact ⟨rfl, hb⟩
           · have t4 := j0t (n := hi) (m := 4000) (by omega) (by omega)
             by_cases h5 : hi < lo
             · rw [if_pos (by omega)]
               clear h3 h4
               go_enter Tryz.func111, Tryz.ntmps111
               go_wp2_with (go_at_call 110; refine (c0z _ _ _ (by omega)).mono ?_; rintro _ _ ⟨rfl, rfl⟩)
               go_ret
               exact ⟨rfl, hb⟩
             · rw [if_neg (by omega)]
               clear h3 h4
               go_enter Tryz.func111, Tryz.ntmps111
               go_wp2_with (go_at_call 110; refine (c0z _ _ _ (by omega)).mono ?_; rintro _ _ ⟨rfl, rfl⟩)
               go_ret
               exact ⟨rfl, hb⟩
   · have u16 : (rad == 16) = false := bFn hr16
     have u16' : (rad != 16) = true := by rw [bne, u16]; rfl
     rw [if_pos ⟨hr2, hr16⟩]
     clear hr2 hr16
     go_enter Tryz.func111, Tryz.ntmps111
     go_wp2
     go_ret
     exact ⟨rfl, hb⟩
theorem m0a (a N n : Nat) (h : (dig B32 a).length ≤ n) : (dig B32 (a * 2 ^ N)).length ≤ n + (N / 32 + 1) := Nat.le_trans (o1t a N) (by omega)
theorem t0w {a : Nat} {n : Int} (h : (dig B32 a).length ≤ 1000000) (hn : -10000000 ≤ n ∧ n ≤ 10000000) : (dig B32 (numP a n)).length ≤ 1400000 := by
 have := m0a a n.toNat _ h; unfold numP; omega
theorem t0x {a : Nat} {n : Int} (h : (dig B32 a).length ≤ 1000000) (hn : -10000000 ≤ n ∧ n ≤ 10000000) : (dig B32 (denP a n)).length ≤ 1400000 := by
 have := m0a a (-n).toNat _ h; unfold denP; omega
theorem y0r (w : World) : Calls Tryz.prog 38 #[.int .i64 1] w (g0h w .u32 101 (dig B32 1)) := n1n 1 w (by omega)
def s1s (w : World) (q0 : OA) (x y z : Nat) (en : Ending) (w' : World) : Prop :=
 ∃ p c q d r f, en = .returned (.tuple #[.slice p (dig B32 x).length c, .slice q (dig B32 y).length d, .slice r (dig B32 z).length f]) ∧ Own w' w.heap.size .u32 101 p c (dig B32 x) ∧ Own w' w.heap.size .u32 101 q d (dig B32 y) ∧ Rd w' .u32 r (dig B32 z) ∧ (r = q0 ∨ (0 < (dig B32 z).length → w.heap.size ≤ blk r)) ∧ Below w.heap.size w w'
theorem n0c (p q : OA) (m k c d : Nat) (a b : Nat) (n : Int) (w : World) (hp : Rd w .u32 p (dig B32 a)) (hq : Rd w .u32 q (dig B32 b)) (hm : m = (dig B32 a).length) (hk : k = (dig B32 b).length)
 (hl : (dig B32 a).length ≤ 1000000) (hl2 : (dig B32 b).length ≤ 1000000) (hb : 0 < b) (hn : -10000000 ≤ n ∧ n ≤ 10000000) :
 Calls Tryz.prog 43 #[.slice p m c, .slice q k d, .int .i64 n] w (s1s w q (qP a b n) (rP a b n) (denP b n)) := by
 subst hm hk
 have l1 := t0w hl hn
 have l2 := t0x hl2 hn
 have h0 := d0m hb n
 unfold qP rP
 by_cases h : 0 ≤ n
 · obtain ⟨N, rfl⟩ : ∃ N : Nat, n = N := ⟨n.toNat, by omega⟩
   have e1 : denP b (N : Int) = b := by unfold denP; rw [show (-(N : Int)).toNat = 0 by omega, Nat.pow_zero, Nat.mul_one]
   have HN := hi0 (show numP a (N : Int) = a * 2 ^ N by unfold numP; rw [Int.toNat_natCast])
   rw [e1] at l2 h0 ⊢
   clear e1
   generalize numP a (N : Int) = x at *
   go_enter Tryz.func43, Tryz.ntmps43
   go_wp2_with fail
   ((with_reducible refine (n0b p _ c a N _ hp rfl (by omega) (by omega)).mono ?_))
   rintro e1 w1 ⟨p1, c1, rfl, ho1, hb1⟩
   replace hp := hp.past hb1
   replace hq := hq.past hb1
   have hs1 := hb1
   rw [← HN.out] at ho1 ⊢
   go_wp2_with fail
   ((with_reducible refine (i0e p1 q _ _ c1 d x b _ ho1.rd hq rfl rfl (by omega) (by omega) h0).mono ?_))
   rintro e2 w2 ⟨p2, c2, q2, d2, rfl, ho2, ho3, hb2, -⟩
   replace hp := hp.past hb2
   replace hq := hq.past hb2
   replace ho1 := ho1.past hb2
   have hs2 := hs1.trans (hb2.mono hs1.size)
   go_wp2_with fail
   refine bodyPost_ret (v := .tuple #[.slice p2 (dig B32 (x / b)).length c2, .slice q2 (dig B32 (x % b)).length d2, .slice q (dig B32 b).length d]) (by simp [results, Tryz.results43, go_sem]) rfl ?_
   exact ⟨p2, c2, q2, d2, q, d, rfl, ho2.mono hs1.size, ho3.mono hs1.size, hq, .inl rfl, hs2⟩
 · obtain ⟨N, rfl⟩ : ∃ N : Nat, n = -(N : Int) := ⟨(-n).toNat, by omega⟩
   have e1 : numP a (-(N : Int)) = a := by unfold numP; rw [show (-(N : Int)).toNat = 0 by omega, Nat.pow_zero, Nat.mul_one]
   have HN := hi0 (show denP b (-(N : Int)) = b * 2 ^ N by unfold denP; rw [show (-(-(N : Int))).toNat = N by omega])
   rw [e1] at l1 ⊢
   clear e1
   generalize denP b (-(N : Int)) = x at *
   go_enter Tryz.func43, Tryz.ntmps43
   go_wp2_with fail
   ((with_reducible refine (n0b q _ d b N _ hq rfl (by omega) (by omega)).mono ?_))
   rintro e1 w1 ⟨p1, c1, rfl, ho1, hb1⟩
   replace hp := hp.past hb1
   replace hq := hq.past hb1
   have hs1 := hb1
   rw [← HN.out] at ho1 ⊢
   go_wp2_with fail
   ((with_reducible refine (i0e p p1 _ _ c c1 a x _ hp ho1.rd rfl rfl (by omega) (by omega) h0).mono ?_))
   rintro e2 w2 ⟨p2, c2, q2, d2, rfl, ho2, ho3, hb2, -⟩
   replace hp := hp.past hb2
   replace hq := hq.past hb2
   replace ho1 := ho1.past hb2
   have hs2 := hs1.trans (hb2.mono hs1.size)
   go_wp2_with fail
   refine bodyPost_ret (v := .tuple #[.slice p2 (dig B32 (a / x)).length c2, .slice q2 (dig B32 (a % x)).length d2, .slice p1 (dig B32 x).length c1]) (by simp [results, Tryz.results43, go_sem]) rfl ?_
   exact ⟨p2, c2, q2, d2, p1, c1, rfl, ho2.mono hs1.size, ho3.mono hs1.size, ho1.rd, .inr fun h => (ho1.blk_lt (ho1.rd.solid h).1).1, hs2⟩
end Go.Proofs.YtpgomglbaacmdaaGreatDoor
namespace Go.Slip
open Go.RowKit Go.MapKept
section
variable {P : Program} {w : World} {ik : IntKind}
theorem m0b (ik : IntKind) (k : Int) : IsKey (.int ik) (.int ik k) := by first | rfl | (simp [IsKey]) | (cases ik <;> rfl)
theorem e0w {mt kt vt : TypeId} (hm : P.underlying mt = some (.map kt vt)) (hk : P.underlying kt = some (.int ik)) (es : Array MapEntry) (clock : Nat) (k : Int) (v : Value)
 (hf : Instr.findNow (.int ik) (.int ik k) es.toList 0 = some none) :
 (Instr.mapUpdate mt (.map (some w.heap.size)) (.int ik k) v).run P (w.alloc (.map es clock)) = .ok () (w.alloc (.map (es.push ⟨.int ik k, v, clock⟩) (clock + 1))) := by
 have hb : (w.alloc (.map es clock)).heap[w.heap.size]? = some (.map es clock) := by show (w.heap.push _)[_]? = _; simp
 simp [Instr.mapUpdate, run_underlying hm, MapKept.run_getObj_map hb, run_checkKey hk (m0b ik k), run_findKey hk hf, run_setObj_map _ hb, Result.andThen]
 have e : (w.heap.push (.map es clock)).setIfInBounds w.heap.size (.map (es.push ⟨.int ik k, v, clock⟩) (clock + 1)) = w.heap.push (.map (es.push ⟨.int ik k, v, clock⟩) (clock + 1)) := by
  apply Array.ext'
  simp
 show World.mk _ _ _ _ _ = World.mk _ _ _ _ _
 congr 1
theorem g0z {mt kt vt : TypeId} {b : Nat} {es : Array MapEntry} {clock : Nat} (hm : P.underlying mt = some (.map kt vt)) (hk : P.underlying kt = some (.int ik)) (hb : w.heap[b]? = some (.map es clock)) (k : Int)
 {i : Nat} {v : Value} (hf : Instr.findNow (.int ik) (.int ik k) es.toList 0 = some (some (i, v))) :
 (Instr.lookup mt (.map (some b)) (.int ik k) false).run P w = .ok v w := by
 simp [Instr.lookup, run_underlying hm, MapKept.run_getObj_map hb, run_checkKey hk (m0b ik k), run_findKey hk hf, Result.andThen]
theorem j0c {mt kt vt : TypeId} {b : Nat} {es : Array MapEntry} {clock : Nat} {z : Value} (hm : P.underlying mt = some (.map kt vt)) (hk : P.underlying kt = some (.int ik)) (hb : w.heap[b]? = some (.map es clock)) (k : Int)
 (hz : (zeroValue vt).run P w = .ok z w) (hf : Instr.findNow (.int ik) (.int ik k) es.toList 0 = some none) :
 (Instr.lookup mt (.map (some b)) (.int ik k) false).run P w = .ok z w := by
 simp [Instr.lookup, run_underlying hm, MapKept.run_getObj_map hb, run_checkKey hk (m0b ik k), run_findKey hk hf, Result.andThen, hz]
theorem c1s {ops : Array Oper} {rest : List Oper} {o : Oper} {a : Act} {Q : Exit → Act → World → Prop}
 (hg : o.guard = none) (m x v : Operand) (t : TypeId) (hop : o.op = Op.insert t m x v) {kt vt : TypeId} (hm : P.underlying t = some (.map kt vt)) (hk : P.underlying kt = some (.int ik)) {es : Array MapEntry} {clock : Nat} {k : Int} {val : Value}
 (h1 : a.eval m = .map (some w.heap.size)) (h2 : a.eval x = .int ik k) (h3 : a.eval v = val) (hf : Instr.findNow (.int ik) (.int ik k) es.toList 0 = some none)
 (h : wpList P ops Q rest (a.put o.dst undef) (w.alloc (.map (es.push ⟨.int ik k, val, clock⟩) (clock + 1)))) : wpList P ops Q (o :: rest) a (w.alloc (.map es clock)) := by
 refine wpList_plain hg fun K' hK' => ?_
 unfold Oper.wp
 simp [execOp, hop, h1, h2, h3, e0w hm hk es clock k val hf, Result.andThen]
 exact hK' _ _ h
end
end Go.Slip
namespace Go.Proofs.YtpgomglbaacmdaaGreatDoor
open Go.RowKit Go.Slip
def p0i : Array MapEntry := #[⟨.int .i64 1, .func (.func 87) #[] #[], 0⟩, ⟨.int .i64 2, .func (.func 88) #[] #[], 1⟩, ⟨.int .i64 3, .func (.func 89) #[] #[], 2⟩, ⟨.int .i64 4, .func (.func 90) #[] #[], 3⟩, ⟨.int .i64 5, .func (.func 91) #[] #[], 4⟩]
theorem g1u : Tryz.prog.underlying 103 = some (.map 3 102) := by kernel_rfl
def Ways (w : World) (b : Nat) : Prop := w.heap[b]? = some (.map p0i 5)
theorem Ways.past {w w' : World} {b : Nat} (h : Ways w b) (hb : Below w.heap.size w w') : Ways w' b := (hb.block b (Array.getElem?_eq_some_iff.1 h).1).trans h
theorem y0s (w : World) :
 Calls Tryz.prog 45 #[] w fun e w' => e = .returned (.map (some w.heap.size)) ∧ Ways w' w.heap.size ∧ Below w.heap.size w w' := by
 have hmm := @run_makeMap Tryz.prog
 go_enter Tryz.func45, Tryz.ntmps45
 go_wp2_with (refine c1s rfl _ _ _ _ rfl g1u Tryz.underlying3 rfl rfl rfl rfl ?_)
 go_ret
 exact ⟨rfl, by show (w.heap.push _)[_]? = _; simp [p0i], (Below.refl _ _).alloc (Nat.le_refl _) _⟩
def wayF (k : Int) : Value := if k = 1 then .func (.func 87) #[] #[] else if k = 2 then .func (.func 88) #[] #[] else if k = 3 then .func (.func 89) #[] #[]
 else if k = 4 then .func (.func 90) #[] #[] else if k = 5 then .func (.func 91) #[] #[] else .nilFunc
theorem c1t {k : Int} (h1 : 1 ≤ k) (h2 : k ≤ 5) : ∃ i, Instr.findNow (.int .i64) (.int .i64 k) p0i.toList 0 = some (some (i, wayF k)) := by
 obtain rfl | rfl | rfl | rfl | rfl : k = 1 ∨ k = 2 ∨ k = 3 ∨ k = 4 ∨ k = 5 := by omega
 · exact ⟨0, rfl⟩
 · exact ⟨1, rfl⟩
 · exact ⟨2, rfl⟩
 · exact ⟨3, rfl⟩
 · exact ⟨4, rfl⟩
theorem y0t {k : Int} (h : k < 1 ∨ 5 < k) : Instr.findNow (.int .i64) (.int .i64 k) p0i.toList 0 = some none := by
 have g : ∀ j : Int, 1 ≤ j → j ≤ 5 → (k == j) = false := fun j h1 h2 => bFn (by omega)
 simp [p0i, Instr.findNow, Instr.sameNow, g 1 (by omega) (by omega), g 2 (by omega) (by omega), g 3 (by omega) (by omega), g 4 (by omega) (by omega), g 5 (by omega) (by omega)]
theorem g1v {w : World} {b : Nat} (h : Ways w b) {k : Int} (h1 : 1 ≤ k) (h2 : k ≤ 5) :
 (Instr.lookup 103 (.map (some b)) (.int .i64 k) false).run Tryz.prog w = .ok (wayF k) w := by
 obtain ⟨i, hi⟩ := c1t h1 h2
 exact g0z g1u Tryz.underlying3 h k hi
theorem k1q {w : World} {b : Nat} (h : Ways w b) {k : Int} (hk : k < 1 ∨ 5 < k) :
 (Instr.lookup 103 (.map (some b)) (.int .i64 k) false).run Tryz.prog w = .ok .nilFunc w :=
 j0c g1u Tryz.underlying3 h k (by kernel_rfl) (y0t hk)
def wayB (k : Int) : Bool := decide (1 ≤ k) && decide (k ≤ 5)
theorem w0e {k : Int} (h1 : 1 ≤ k) (h2 : k ≤ 5) : wayB k = true := by unfold wayB; simp [h1, h2]
theorem r0q {k : Int} (h : k < 1 ∨ 5 < k) : wayB k = false := by
 unfold wayB
 rcases h with h | h
 · rw [decide_eq_false (by omega)]; rfl
 · rw [decide_eq_false (p := k ≤ 5) (by omega)]; simp
theorem w0f (k : Int) (w : World) :
 Calls Tryz.prog 112 #[.int .i64 k] w fun e w' => e = .returned (.bool (wayB k)) ∧ Below w.heap.size w w' := by
 by_cases h : k < 1 ∨ 5 < k
 · rw [r0q h]
   have HL := fun W (hW : Ways W w.heap.size) => k1q hW h
   have HLL := hi0 HL
   clear HL h
   have hne : ∀ w, (binOp .neq 102 .nilFunc .nilFunc).run Tryz.prog w = .ok (.bool false) w := fun w => by kernel_rfl
   go_enter Tryz.func112, Tryz.ntmps112
   go_wp2_with fail
   ((with_reducible refine (y0s _).mono ?_))
   rintro e1 w1 ⟨rfl, hw, hb⟩
   have hl := HLL.out w1 hw
   go_wp2
   go_ret
   exact ⟨rfl, hb⟩
 · rw [w0e (by omega) (by omega)]
   have HL := fun W (hW : Ways W w.heap.size) => g1v hW (k := k) (by omega) (by omega)
   have HLL := hi0 HL
   obtain ⟨f, hf⟩ : ∃ f, wayF k = .func (.func f) #[] #[] := by
    obtain rfl | rfl | rfl | rfl | rfl : k = 1 ∨ k = 2 ∨ k = 3 ∨ k = 4 ∨ k = 5 := by omega
    · exact ⟨_, rfl⟩
    · exact ⟨_, rfl⟩
    · exact ⟨_, rfl⟩
    · exact ⟨_, rfl⟩
    · exact ⟨_, rfl⟩
   rw [hf] at HLL
   clear HL h hf
   have hne : ∀ w, (binOp .neq 102 (.func (.func f) #[] #[]) .nilFunc).run Tryz.prog w = .ok (.bool true) w := fun w => by kernel_rfl
   go_enter Tryz.func112, Tryz.ntmps112
   go_wp2_with fail
   ((with_reducible refine (y0s _).mono ?_))
   rintro e1 w1 ⟨rfl, hw, hb⟩
   have hl := HLL.out w1 hw
   go_wp2
   go_ret
   exact ⟨rfl, hb⟩
theorem k1r (neg odd : Bool) (half : Int) (w : World) :
 Calls Tryz.prog 87 #[.bool neg, .bool odd, .int .i64 half] w fun e w' => e = .returned (.bool (f0k 1 neg odd half)) ∧ w' = w := by
 unfold f0k
 simp only [if_true]
 by_cases h : 0 < half
 · go_enter Tryz.func87, Tryz.ntmps87
   go_wp2
   go_ret
   exact ⟨by simp [h], rfl⟩
 · by_cases h0 : half = 0
   · subst h0
     cases odd
     · go_enter Tryz.func87, Tryz.ntmps87
       go_wp2
       go_ret
       exact ⟨rfl, rfl⟩
     · go_enter Tryz.func87, Tryz.ntmps87
       go_wp2
       go_ret
       exact ⟨rfl, rfl⟩
   · have t0 : (half == 0) = false := bFn h0
     have H := hi0 h0
     clear h0
     go_enter Tryz.func87, Tryz.ntmps87
     go_wp2
     go_ret
     exact ⟨by simp [H.out, show ¬ 0 < half from by omega], rfl⟩
theorem k1s (neg odd : Bool) (half : Int) (w : World) :
 Calls Tryz.prog 88 #[.bool neg, .bool odd, .int .i64 half] w fun e w' => e = .returned (.bool (f0k 2 neg odd half)) ∧ w' = w := by
 have e : f0k 2 neg odd half = decide (0 ≤ half) := rfl
 rw [e]
 clear e
 by_cases h : 0 ≤ half
 · go_enter Tryz.func88, Tryz.ntmps88
   go_wp2
   go_ret
   exact ⟨by simp [h], rfl⟩
 · go_enter Tryz.func88, Tryz.ntmps88
   go_wp2
   go_ret
   exact ⟨by simp; omega, rfl⟩
theorem k1t (neg odd : Bool) (half : Int) (w : World) :
 Calls Tryz.prog 89 #[.bool neg, .bool odd, .int .i64 half] w fun e w' => e = .returned (.bool (f0k 3 neg odd half)) ∧ w' = w := by
 have e : f0k 3 neg odd half = false := rfl
 rw [e]
 clear e
 go_enter Tryz.func89, Tryz.ntmps89
 go_wp2
 go_ret
 exact ⟨rfl, rfl⟩
theorem k1u (neg odd : Bool) (half : Int) (w : World) :
 Calls Tryz.prog 90 #[.bool neg, .bool odd, .int .i64 half] w fun e w' => e = .returned (.bool (f0k 4 neg odd half)) ∧ w' = w := by
 have e : f0k 4 neg odd half = !neg := rfl
 rw [e]
 clear e
 go_enter Tryz.func90, Tryz.ntmps90
 go_wp2
 go_ret
 exact ⟨rfl, rfl⟩
theorem k1v (neg odd : Bool) (half : Int) (w : World) :
 Calls Tryz.prog 91 #[.bool neg, .bool odd, .int .i64 half] w fun e w' => e = .returned (.bool (f0k 5 neg odd half)) ∧ w' = w := by
 have e : f0k 5 neg odd half = neg := rfl
 rw [e]
 clear e
 go_enter Tryz.func91, Tryz.ntmps91
 go_wp2
 go_ret
 exact ⟨rfl, rfl⟩
theorem g1w {k : Int} (h1 : 1 ≤ k) (h2 : k ≤ 5) :
 ∃ f, wayF k = .func (.func f) #[] #[] ∧ (∀ (neg odd : Bool) (half : Int) (w : World), Calls Tryz.prog f #[.bool neg, .bool odd, .int .i64 half] w fun e w' => e = .returned (.bool (f0k k neg odd half)) ∧ w' = w) ∧ ∀ args w, (callFunc f args).run Tryz.prog w = .ok (.enter f args) w := by
 obtain rfl | rfl | rfl | rfl | rfl : k = 1 ∨ k = 2 ∨ k = 3 ∨ k = 4 ∨ k = 5 := by omega
 · exact ⟨_, rfl, k1r, fun _ _ => by kernel_rfl⟩
 · exact ⟨_, rfl, k1s, fun _ _ => by kernel_rfl⟩
 · exact ⟨_, rfl, k1t, fun _ _ => by kernel_rfl⟩
 · exact ⟨_, rfl, k1u, fun _ _ => by kernel_rfl⟩
 · exact ⟨_, rfl, k1v, fun _ _ => by kernel_rfl⟩
end Go.Proofs.YtpgomglbaacmdaaGreatDoor
