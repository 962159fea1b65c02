/- The reference's formats: FormatOf, OpenPattern, place. -/
import Derived.Deep.LoopGhost
import Derived.Deep.RegionHeld3
import Derived.Carry
import Derived.LoopN
import Derived.Test.YtmacohmclpnphaaDoorYh1
import Derived.Test.YtmacohmclpnphaaDoorYh2
import Derived.Test.YtmacohmclpnphaaDoorYh3
import Derived.Test.YtmacohmclpnphaaDoorYh4
import Derived.Test.YtmacohmclpnphaaDoorYh5
import Derived.Test.YtmacohmclpnphaaDoorYh6
set_option maxHeartbeats 8000000
set_option maxRecDepth 100000
namespace Go.Proofs.YtmacohmclpnphaaDoor
open Go.RowKit Go.Slip
theorem e0k (s e f d l g k : Int) (w : World) : Calls Tryd.prog 79 #[.int .i64 s, .int .i64 e, .int .i64 f, .int .i64 d, .int .i64 l, .int .i64 g, .int .i64 k] w
 fun en w' => en = .returned (.agg #[.int .i64 s, .int .i64 e, .int .i64 f, .int .i64 2, .int .i64 d, .int .i64 l, .int .i64 g, .bool (k == 1), .int .i64 k]) ∧ Below w.heap.size w w' := by
 have I := Inv.start w [] True.intro
 refine a0d [.v (.int .i64 s), .v (.int .i64 e), .v (.int .i64 f), .v (.int .i64 d), .v (.int .i64 l), .v (.int .i64 g), .v (.int .i64 k)] I Tryd.func79 ?_
 exact zrb I
theorem e0u (n : Int) (hn : IsFm n) (w : World) : Calls Tryd.prog 31 #[.int .i64 n] w
 fun e w' => e = .returned (.tuple #[.agg #[.int .i64 (((fmt n).size : Nat) : Int), .int .i64 (((fmt n).E : Nat) : Int), .int .i64 (((fmt n).F : Nat) : Int), .int .i64 (fmt n).g.rad, .int .i64 (fmt n).g.digs, .int .i64 (fmt n).g.lo, .int .i64 (fmt n).g.hi, .bool (fmt n).g.grad, .int .i64 (((fmt n).fam : Nat) : Int)], .bool true]) ∧ Below w.heap.size w w' := by
 rcases e0h hn with rfl | rfl | rfl | rfl | rfl | rfl | rfl | rfl
 · have I := Inv.start w [] True.intro
   refine a0d [.v (.int .i64 1)] I Tryd.func31 ?_
   refine zq I (fun Al W I => e0k 4 8 23 24 (-149) 104 1 W) fun Al W I => ?_
   exact zret I (v := fun Al => .tuple #[.agg #[.int .i64 4, .int .i64 8, .int .i64 23, .int .i64 2, .int .i64 24, .int .i64 (-149), .int .i64 104, .bool true, .int .i64 1], .bool true]) fun Al W I => ⟨by kernel_rfl, I.below⟩
 · have I := Inv.start w [] True.intro
   refine a0d [.v (.int .i64 2)] I Tryd.func31 ?_
   refine zq I (fun Al W I => e0k 8 11 52 53 (-1074) 971 1 W) fun Al W I => ?_
   exact zret I (v := fun Al => .tuple #[.agg #[.int .i64 8, .int .i64 11, .int .i64 52, .int .i64 2, .int .i64 53, .int .i64 (-1074), .int .i64 971, .bool true, .int .i64 1], .bool true]) fun Al W I => ⟨by kernel_rfl, I.below⟩
 · have I := Inv.start w [] True.intro
   refine a0d [.v (.int .i64 3)] I Tryd.func31 ?_
   refine zq I (fun Al W I => e0k 10 15 64 64 (-16445) 16320 1 W) fun Al W I => ?_
   exact zret I (v := fun Al => .tuple #[.agg #[.int .i64 10, .int .i64 15, .int .i64 64, .int .i64 2, .int .i64 64, .int .i64 (-16445), .int .i64 16320, .bool true, .int .i64 1], .bool true]) fun Al W I => ⟨by kernel_rfl, I.below⟩
 · have I := Inv.start w [] True.intro
   refine a0d [.v (.int .i64 4)] I Tryd.func31 ?_
   exact zret I (v := fun Al => .tuple #[.agg #[.int .i64 4, .int .i64 7, .int .i64 24, .int .i64 16, .int .i64 6, .int .i64 (-70), .int .i64 57, .bool false, .int .i64 2], .bool true]) fun Al W I => ⟨by kernel_rfl, I.below⟩
 · have I := Inv.start w [] True.intro
   refine a0d [.v (.int .i64 5)] I Tryd.func31 ?_
   exact zret I (v := fun Al => .tuple #[.agg #[.int .i64 8, .int .i64 7, .int .i64 56, .int .i64 16, .int .i64 14, .int .i64 (-78), .int .i64 49, .bool false, .int .i64 2], .bool true]) fun Al W I => ⟨by kernel_rfl, I.below⟩
 · have I := Inv.start w [] True.intro
   refine a0d [.v (.int .i64 6)] I Tryd.func31 ?_
   refine zq I (fun Al W I => e0k 4 8 23 24 (-151) 103 3 W) fun Al W I => ?_
   exact zret I (v := fun Al => .tuple #[.agg #[.int .i64 4, .int .i64 8, .int .i64 23, .int .i64 2, .int .i64 24, .int .i64 (-151), .int .i64 103, .bool false, .int .i64 3], .bool true]) fun Al W I => ⟨by kernel_rfl, I.below⟩
 · have I := Inv.start w [] True.intro
   refine a0d [.v (.int .i64 7)] I Tryd.func31 ?_
   refine zq I (fun Al W I => e0k 8 8 55 56 (-183) 71 3 W) fun Al W I => ?_
   exact zret I (v := fun Al => .tuple #[.agg #[.int .i64 8, .int .i64 8, .int .i64 55, .int .i64 2, .int .i64 56, .int .i64 (-183), .int .i64 71, .bool false, .int .i64 3], .bool true]) fun Al W I => ⟨by kernel_rfl, I.below⟩
 · have I := Inv.start w [] True.intro
   refine a0d [.v (.int .i64 8)] I Tryd.func31 ?_
   refine zq I (fun Al W I => e0k 8 11 52 53 (-1076) 970 3 W) fun Al W I => ?_
   exact zret I (v := fun Al => .tuple #[.agg #[.int .i64 8, .int .i64 11, .int .i64 52, .int .i64 2, .int .i64 53, .int .i64 (-1076), .int .i64 970, .bool false, .int .i64 3], .bool true]) fun Al W I => ⟨by kernel_rfl, I.below⟩
theorem i0s (n : Int) (hn : ¬ IsFm n) (w : World) : Calls Tryd.prog 31 #[.int .i64 n] w
 fun e w' => e = .returned (.tuple #[.agg #[.int .i64 (((fmt n).size : Nat) : Int), .int .i64 (((fmt n).E : Nat) : Int), .int .i64 (((fmt n).F : Nat) : Int), .int .i64 (fmt n).g.rad, .int .i64 (fmt n).g.digs, .int .i64 (fmt n).g.lo, .int .i64 (fmt n).g.hi, .bool (fmt n).g.grad, .int .i64 (((fmt n).fam : Nat) : Int)], .bool false]) ∧ Below w.heap.size w w' := by
 rw [s0k hn]
 unfold IsFm at hn
 have I := Inv.start w [] True.intro
 refine a0d [.v (.int .i64 n)] I Tryd.func31 ?_
 refine zb I 7 (n == 1) (false) (bFn (by omega)) fun Al W I => ?_
 refine zb I 11 (n == 2) (false) (bFn (by omega)) fun Al W I => ?_
 refine zb I 15 (n == 3) (false) (bFn (by omega)) fun Al W I => ?_
 refine zb I 19 (n == 4) (false) (bFn (by omega)) fun Al W I => ?_
 refine zb I 23 (n == 5) (false) (bFn (by omega)) fun Al W I => ?_
 refine zb I 27 (n == 6) (false) (bFn (by omega)) fun Al W I => ?_
 refine zb I 31 (n == 7) (false) (bFn (by omega)) fun Al W I => ?_
 refine zb I 35 (n == 8) (false) (bFn (by omega)) fun Al W I => ?_
 exact zret I (v := fun Al => .tuple #[.agg #[.int .i64 0, .int .i64 0, .int .i64 0, .int .i64 0, .int .i64 0, .int .i64 0, .int .i64 0, .bool false, .int .i64 0], .bool false]) fun Al W I => ⟨by kernel_rfl, I.below⟩
theorem e0i (n : Int) (w : World) : Calls Tryd.prog 31 #[.int .i64 n] w
 fun e w' => e = .returned (.tuple #[.agg #[.int .i64 (((fmt n).size : Nat) : Int), .int .i64 (((fmt n).E : Nat) : Int), .int .i64 (((fmt n).F : Nat) : Int), .int .i64 (fmt n).g.rad, .int .i64 (fmt n).g.digs, .int .i64 (fmt n).g.lo, .int .i64 (fmt n).g.hi, .bool (fmt n).g.grad, .int .i64 (((fmt n).fam : Nat) : Int)], .bool (decide (IsFm n))]) ∧ Below w.heap.size w w' := by
 by_cases hn : IsFm n
 · rw [decide_eq_true hn]; exact e0u n hn w
 · rw [decide_eq_false hn]; exact i0s n hn w
theorem l0u (n : Int) (s : ByteArray) (w : World) : Calls Tryd.prog 33 #[.int .i64 n, .string s] w
 fun e w' => e = .returned (.int .i64 (b0x n s)) ∧ Below w.heap.size w w' := by
 by_cases hn : IsFm n
 · have HF := fun W => hi0 (e0u n hn W)
   by_cases hs : s.size = (fmt n).size
   · rw [c0y.2 ⟨hn, hs⟩]
     generalize fmt n = f at *
     have I := Inv.start w [] True.intro
     refine a0d [.v (.int .i64 n), .v (.string s)] I Tryd.func33 ?_
     refine zq I (fun Al W I => (HF W).out) fun Al W I => ?_
     refine zb I 18 ((s.size : Int) != (f.size : Int)) (false) (by simp [hs]) fun Al W I => ?_
     exact zrb I
   · rw [show b0x n s = 1 by unfold b0x; rw [if_pos hn, if_neg hs]]
     generalize fmt n = f at *
     have I := Inv.start w [] True.intro
     refine a0d [.v (.int .i64 n), .v (.string s)] I Tryd.func33 ?_
     refine zq I (fun Al W I => (HF W).out) fun Al W I => ?_
     refine zb I 18 ((s.size : Int) != (f.size : Int)) (true) (bne_iff_ne.2 (fun h => hs (by omega))) fun Al W I => ?_
     exact zrb I
 · have HF := fun W => hi0 (i0s n hn W)
   rw [show b0x n s = 6 by unfold b0x; rw [if_neg hn]]
   generalize fmt n = f at *
   have I := Inv.start w [] True.intro
   refine a0d [.v (.int .i64 n), .v (.string s)] I Tryd.func33 ?_
   refine zq I (fun Al W I => (HF W).out) fun Al W I => ?_
   exact zrb I
theorem d1k {n : Int} (h : IsFm n) : (fmt n).ext = decide (n = 3) := by
 rcases e0h h with rfl | rfl | rfl | rfl | rfl | rfl | rfl | rfl <;> rfl
theorem q0m (n : Int) (i : Nat) (w : World) (hn : IsFm n) (hi : i < (fmt n).size) : Calls Tryd.prog 134 #[.int .i64 n, .int .i64 (i : Int)] w
 fun e w' => e = .returned (.int .i64 ((plc (fmt n).ord (fmt n).size i : Nat) : Int)) ∧ Below w.heap.size w w' := by
 have HF := fun W => hi0 (e0u n hn W)
 have G := c0e hn
 have z1 := G.sz
 have he := d1k hn
 generalize fmt n = f at *
 by_cases h3 : n = 3
 · rw [decide_eq_true h3] at he
   have hp : ((plc f.ord f.size i : Nat) : Int) = (f.size : Int) - 1 - i := by unfold plc Fm.ord; rw [he, if_pos rfl, if_pos rfl]; omega
   rw [hp]
   have I := Inv.start w [] True.intro
   refine a0d [.v (.int .i64 n), .v (.int .i64 (i : Int))] I Tryd.func134 ?_
   refine zq I (fun Al W I => (HF W).out) fun Al W I => ?_
   refine zb I 14 (n == 3) (true) (beq_iff_eq.2 h3) fun Al W I => ?_
   refine zi I 17 .i64 ((f.size : Int) - 1) ((f.size : Int) - 1) (iwo) fun Al W I => ?_
   refine zi I 19 .i64 (((f.size : Int) - 1) - (i : Int)) (((f.size : Int) - 1) - (i : Int)) (iwo) fun Al W I => ?_
   exact zrb I
 · rw [decide_eq_false h3] at he
   by_cases hf : f.fam = 3
   · have hp : ((plc f.ord f.size i : Nat) : Int) = (i : Int) + 1 - 2 * ((i % 2 : Nat) : Int) := by unfold plc Fm.ord; rw [he, if_neg (show ¬ (false = true) by simp), if_pos hf, if_neg (by omega), if_pos rfl]; omega
     rw [hp]
     have I := Inv.start w [] True.intro
     refine a0d [.v (.int .i64 n), .v (.int .i64 (i : Int))] I Tryd.func134 ?_
     refine zq I (fun Al W I => (HF W).out) fun Al W I => ?_
     refine zb I 14 (n == 3) (false) (bFn h3) fun Al W I => ?_
     refine zb I 23 ((f.fam : Int) == 3) (true) (beq_iff_eq.2 (by omega)) fun Al W I => ?_
     refine zi I 25 .i64 ((i : Int) + 1) ((i : Int) + 1) (iwo) fun Al W I => ?_
     refine zbin I 27 _ (fun _ _ _ _ _ => x0s .i64 (i : Int) (2) (((i % 2 : Nat) : Int)) ((show (2 : Int) ≠ 0 by omega)) ((by exact (Int.ofNat_tmod i 2).symm))) fun Al W I => ?_
     refine zi I 28 .i64 ((2 : Int) * ((i % 2 : Nat) : Int)) ((2 : Int) * ((i % 2 : Nat) : Int)) (iwo) fun Al W I => ?_
     refine zi I 29 .i64 (((i : Int) + 1) - ((2 : Int) * ((i % 2 : Nat) : Int))) (((i : Int) + 1) - ((2 : Int) * ((i % 2 : Nat) : Int))) (iwo) fun Al W I => ?_
     exact zrb I
   · have hp : ((plc f.ord f.size i : Nat) : Int) = (i : Int) := by unfold plc Fm.ord; rw [he, if_neg (show ¬ (false = true) by simp), if_neg hf, if_neg (by omega), if_neg (by omega)]
     rw [hp]
     have I := Inv.start w [] True.intro
     refine a0d [.v (.int .i64 n), .v (.int .i64 (i : Int))] I Tryd.func134 ?_
     refine zq I (fun Al W I => (HF W).out) fun Al W I => ?_
     refine zb I 14 (n == 3) (false) (bFn h3) fun Al W I => ?_
     refine zb I 23 ((f.fam : Int) == 3) (false) (bFn (by omega)) fun Al W I => ?_
     exact zrb I
end Go.Proofs.YtmacohmclpnphaaDoor
namespace Go.Slip
theorem o0r (c : Nat) {j : Nat} (h : j < 8) : (d0q c).take (j + 1) = (d0q c).take j ++ [c / (128 / 2 ^ j) % 2 == 1] := by
 match j, h with
 | 0, _ => rfl
 | 1, _ => rfl
 | 2, _ => rfl
 | 3, _ => rfl
 | 4, _ => rfl
 | 5, _ => rfl
 | 6, _ => rfl
 | 7, _ => rfl
theorem i1a {k j : Nat} (h : k = 128 / 2 ^ j) (hj : j ≤ 8) : k = 0 ↔ j = 8 := by
 subst h
 match j, hj with
 | 0, _ => decide
 | 1, _ => decide
 | 2, _ => decide
 | 3, _ => decide
 | 4, _ => decide
 | 5, _ => decide
 | 6, _ => decide
 | 7, _ => decide
 | 8, _ => decide
theorem j1b {k j : Nat} (h : k = 128 / 2 ^ j) : k ≤ 128 := by rw [h]; exact Nat.div_le_self _ _
theorem k0c : ∀ (x y : List Nat), f0a (x ++ y) = f0a x ++ f0a y
 | [], _ => rfl
 | c :: r, y => by show d0q c ++ f0a (r ++ y) = _; rw [k0c r y]; simp [f0a]
theorem v0j (L : List Nat) {i : Nat} (h : i < L.length) : f0a (L.take (i + 1)) = f0a (L.take i) ++ (d0q (dg L i)).take 8 := by
 rw [← List.take_append_getElem h, k0c, b0i h]
 congr 1
end Go.Slip
namespace Go.Proofs.YtmacohmclpnphaaDoor
open Go.RowKit Go.Slip
def GBs (w : World) (bs : List Bool) (en : Ending) (w' : World) : Prop :=
 ∃ p c, en = .returned (.slice p bs.length c) ∧ OwnV w' w.heap.size 4 p c (bs.map Value.bool) ∧ Below w.heap.size w w'
theorem o0s (n : Int) (s : ByteArray) (w : World) (hn : IsFm n) (hs : s.size = (fmt n).size) :
 Calls Tryd.prog 82 #[.int .i64 n, .string s] w (GBs w (f0a (ordL (fmt n).ord (a0x s)))) := by
 have G := c0e hn
 have z1 := G.sz
 have HP := fun i W h => hi0 (q0m n i W hn h)
 generalize fmt n = f at *
 have hl0 : (a0x s).length = f.size := by rw [b0s, hs]
 have hlL : (ordL f.ord (a0x s)).length = f.size := by rw [b0o, hl0]
 have hbL := g0w (o := f.ord) (xs := a0x s) (fun _ => by omega) (j0l s)
 have hdg : ∀ i, i < f.size → dg (a0x s) (plc f.ord f.size i) = dg (ordL f.ord (a0x s)) i := fun i hi => by rw [j0q (by omega), hl0]
 have hpl : ∀ i, i < f.size → plc f.ord f.size i < s.size := fun i hi => by rw [hs]; exact y0h (fun _ => by omega) hi
 generalize ordL f.ord (a0x s) = L at *
 have hsucc := fun i (h : i < f.size) => v0j L (i := i) (by omega)
 have hdb := h1m hbL
 have hlen : ∀ i, i ≤ f.size → (f0a (L.take i)).length = 8 * i := fun i hi => by rw [g0j, List.length_take]; omega
 have hall : L.take f.size = L := List.take_of_length_le (by omega)
 clear hbL hl0
 refine calls_of_wp Tryd.func82 rfl ?_
 refine b0a (a' := ⟨((.int .i64 n) :: (.string s) :: us 32 []).toArray, []⟩) (by kernel_rfl) ?_
 refine yq ?_
 refine yq ?_
 refine wp_seq ?_
 refine yq ?_
 refine wp_block ?_
 refine b0a (a' := ⟨((.int .i64 n) :: (.string s) :: us 2 ((.slice none 0 0) :: (.slice none 0 0) :: (.int .i64 0) :: us 27 [])).toArray, []⟩) (by kernel_rfl) ?_
 refine g0u (fun (gk : Nat) U0 a' w' => ∃ (i : Nat) (p5 : Option Addr) (c5 : Nat) (n5 : Nat), a' = ⟨((.int .i64 n) :: (.string s) :: us 2 ((.slice none 0 0) :: (.slice p5 n5 c5) :: (.int .i64 (i : Int)) :: uvs U0 7 26 (undef :: []))).toArray, []⟩ ∧ (OwnV w' w.heap.size 4 p5 c5 ((f0a (L.take i)).map Value.bool)) ∧ Below w.heap.size w w' ∧ (n5 = 8 * i) ∧ (gk + i = f.size)) f.size ?_ (fun Gx hGx => ?_)
 · exact ⟨0, none, 0, 0, by kernel_rfl, (by rw [List.take_zero]; exact OwnV.nil _ _ _), Below.refl _ _, (by omega), (by omega)⟩
 rintro gk0 U0 _ V1 ⟨i, p5, c5, n5, rfl, o5, hbV1, hn5, hgk⟩
 refine hGx _ _ _ ?_
 clear hGx Gx
 have hzV1 := hbV1.size
 refine wp_seq ?_
 refine ye ?_
 rcases Bool.eq_false_or_eq_true (decide ((i : Int) < (s.size : Int))) with f12 | f12
 · refine yb 3 rfl 12 (decide ((i : Int) < (s.size : Int))) (true) (f12) ?_
   refine yzt 0 ?_
   refine yT ?_
   refine wp_skip ?_
   refine a0o ?_
   refine wp_seq ?_
   refine wp_block ?_
   refine ye ?_
   refine yc 3 rfl 18 ((HP i V1 (by have := oTr f12; omega)).out) (fun Gx hGx => ?_)
   rintro eV2 V2 ⟨rfl, hbV2⟩
   have hzV2 := hbV2.size
   refine ⟨_, rfl, hGx _ _ ?_⟩
   clear hGx Gx
   refine yv 0 rfl 19 (.int .u8 ((dg L i : Nat) : Int)) ?_ (a1w uStr (m := plc f.ord f.size i) (by kernel_rfl) (by kernel_rfl) (hpl i (by have := oTr f12; omega)) (by rw [hdg i (by have := oTr f12; omega)]))
   refine ya 0 rfl 20 .i64 ((dg L i : Nat) : Int) (((dg L i : Nat) : Int)) ((IntWalk.i64_in _ (by have := hdb i; omega))) ?_
   refine yzt 1 ?_
   refine yq ?_
   refine wp_block ?_
   refine b0a (a' := ⟨((.int .i64 n) :: (.string s) :: us 2 ((.slice none 0 0) :: (.slice p5 n5 c5) :: (.int .i64 (i : Int)) :: (.int .i64 ((dg L i : Nat) : Int)) :: (.int .i64 128) :: (.int .i64 (i : Int)) :: (.string s) :: (.int .i64 (s.size : Int)) :: (.bool true) :: uvs U0 13 2 ((.string s) :: (.int .i64 n) :: (.int .i64 (i : Int)) :: (.int .i64 ((plc f.ord f.size i : Nat) : Int)) :: (.int .u8 ((dg L i : Nat) : Int)) :: (.int .i64 ((dg L i : Nat) : Int)) :: uvs U0 21 12 (undef :: [])))).toArray, []⟩) (by kernel_rfl) ?_
   refine g0u (fun (gk : Nat) U1 a' w' => ∃ (j : Nat) (k : Nat) (p7 : Option Addr) (c7 : Nat) (n7 : Nat), a' = ⟨((.int .i64 n) :: (.string s) :: us 2 ((.slice none 0 0) :: (.slice p7 n7 c7) :: (.int .i64 (i : Int)) :: (.int .i64 ((dg L i : Nat) : Int)) :: (.int .i64 (k : Int)) :: (.int .i64 (i : Int)) :: (.string s) :: (.int .i64 (s.size : Int)) :: (.bool true) :: uvs U0 13 2 ((.string s) :: (.int .i64 n) :: (.int .i64 (i : Int)) :: (.int .i64 ((plc f.ord f.size i : Nat) : Int)) :: (.int .u8 ((dg L i : Nat) : Int)) :: (.int .i64 ((dg L i : Nat) : Int)) :: uvs U1 21 12 (undef :: [])))).toArray, []⟩ ∧ (OwnV w' w.heap.size 4 p7 c7 ((f0a (L.take i) ++ (d0q (dg L i)).take j).map Value.bool)) ∧ Below w.heap.size w w' ∧ (n7 = 8 * i + j) ∧ (k = 128 / 2 ^ j) ∧ (gk + j = 8)) 8 ?_ (fun Gx hGx => ?_)
   · replace o5 := (o5.past hbV2)
     exact ⟨0, 128, p5, c5, n5, by kernel_rfl, (by rw [List.take_zero, List.append_nil]; exact o5), (a0c hbV1 hbV2), hn5, (by decide), (by omega)⟩
   rintro gk1 U1 _ V3 ⟨j, k, p7, c7, n7, rfl, o7, hbV3, hn7, hk, hgk1⟩
   refine hGx _ _ _ ?_
   clear hGx Gx
   have hzV3 := hbV3.size
   refine wp_seq ?_
   have hi8 : (f0a (L.take i)).length = 8 * i := hlen i (by have := oTr f12; omega)
   have hk0 : k = 0 ↔ j = 8 := i1a hk (by omega)
   refine ye ?_
   rcases Bool.eq_false_or_eq_true (decide ((k : Int) > 0)) with f22 | f22
   · refine yb 1 rfl 22 (decide ((k : Int) > 0)) (true) (f22) ?_
     refine yzt 0 ?_
     refine yT ?_
     refine wp_skip ?_
     refine a0o ?_
     refine wp_seq ?_
     refine wp_block ?_
     refine b0b ?_
     refine yv 3 rfl 28 (.int .i64 ((dg L i / k : Nat) : Int)) ?_ (t0e (X := (((dg L i : Nat) : Int))) (Y := (k : Int)) ((dg L i / k : Nat) : Int) (by kernel_rfl) (by kernel_rfl) ((by have := oTr f22; omega)) ((by rw [show ((dg L i : Nat) : Int).tdiv (k : Int) = ((dg L i / k : Nat) : Int) from (Int.ofNat_tdiv _ _).symm]; have h1 := hdb i; have h2 := Nat.div_le_self (dg L i) k; generalize dg L i / k = qq at *; exact iwo)))
     refine yv 0 rfl 29 (.int .i64 ((dg L i / k % 2 : Nat) : Int)) ?_ (a1m (X := (((dg L i / k : Nat) : Int))) (Y := (2)) ((dg L i / k % 2 : Nat) : Int) (by kernel_rfl) (by kernel_rfl) ((show (2 : Int) ≠ 0 by omega)) ((by exact (Int.ofNat_tmod _ 2).symm)))
     refine yb 0 rfl 30 (((dg L i / k % 2 : Nat) : Int) == 1) ((dg L i / k % 2 == 1)) ((by exact h0t _)) ?_
     refine ywv 0 rfl 31 (.slice (some ⟨V3.heap.size, 0, none⟩) 1 1) #[.bool (dg L i / k % 2 == 1)] 4 (fun V4 hbV4 hzV4 b31 => ?_)
     replace o7 := (o7.past hbV4)
     refine sapv 32 h0s w.heap.size p7 n7 c7 _ o7 (by simp [hi8, e0t]; omega) (some ⟨V3.heap.size, 0, none⟩) 1 1 [Value.bool (dg L i / k % 2 == 1)] (e1d b31) rfl rfl (by simp [hi8, e0t]; omega) (by omega) (8 * i + (j + 1)) (by simp [hi8, e0t]; have := oTr f22; omega) (fun p32 c32 V5 o32 hjV5 => ?_)
     have hbV5 : Below w.heap.size w V5 := (a0c hbV3 hbV4).trans (hjV5.mono (by omega))
     have hzV5 := hbV5.size
     refine yz 1 ?_
     refine c0c ?_
     refine a0o ?_
     refine b0b ?_
     refine yv 1 rfl 24 (.int .i64 ((k / 2 : Nat) : Int)) ?_ (t0e (X := (k : Int)) (Y := (2)) ((k / 2 : Nat) : Int) (by kernel_rfl) (by kernel_rfl) ((show (2 : Int) ≠ 0 by omega)) ((by rw [show (k : Int).tdiv 2 = ((k / 2 : Nat) : Int) from (Int.ofNat_tdiv k 2).symm]; exact IntWalk.i64_in _ (by have := j1b hk; omega))))
     refine yz 1 ?_
     refine a0o ?_
     refine ⟨gk1 - 1, (by have := oTr f22; omega), ?_⟩
     exact ⟨j + 1, k / 2, p32, c32, 8 * i + (j + 1), by kernel_rfl, (by rw [o0r _ (show j < 8 by have := oTr f22; omega), ← hk, ← List.append_assoc, List.map_append (l₁ := _ ++ _)]; exact o32), hbV5, rfl, (by rw [hk, Nat.div_div_eq_div_mul, Nat.pow_succ]), (by have := oTr f22; omega)⟩
   refine yb 1 rfl 22 (decide ((k : Int) > 0)) (false) (f22) ?_
   refine yzt 0 ?_
   refine yF ?_
   refine wp_exit ?_
   repeat (with_reducible refine d0l ?_)
   refine j0h (id := 2) ?_
   refine c0c ?_
   refine a0o ?_
   refine b0b ?_
   refine ya 1 rfl 14 .i64 ((i : Int) + 1) (((i + 1 : Nat) : Int)) ((by rw [show ((i : Int) + 1) = ((i + 1 : Nat) : Int) by omega]; exact IntWalk.i64_in _ (by have := oTr f12; omega))) ?_
   refine yz 1 ?_
   refine a0o ?_
   refine ⟨gk0 - 1, (by have := oTr f12; omega), ?_⟩
   exact ⟨i + 1, p7, c7, n7, by kernel_rfl, (by rw [hsucc i (by have := oTr f12; omega), ← hk0.1 (by have := oFa f22; omega)]; exact o7), hbV3, (by have := hk0.1 (by have := oFa f22; omega); omega), (by have := oTr f12; omega)⟩
 refine yb 3 rfl 12 (decide ((i : Int) < (s.size : Int))) (false) (f12) ?_
 refine yzt 0 ?_
 refine yF ?_
 refine wp_exit ?_
 repeat (with_reducible refine d0l ?_)
 refine j0h (id := 0) ?_
 refine a0o ?_
 refine yq ?_
 refine wp_ret ?_
 repeat (first | with_reducible refine a0u ?_ | with_reducible refine a0p ?_)
 refine yret (.slice p5 n5 c5) (res1 Tryd.results82 rvt) ?_
 have hi : i = f.size := by have := oFa f12; omega
 have hL8 : (f0a L).length = n5 := by rw [← hall, hlen _ (Nat.le_refl _)]; omega
 rw [hi, hall] at o5
 exact ⟨p5, c5, by rw [hL8], o5, hbV1⟩
end Go.Proofs.YtmacohmclpnphaaDoor
namespace Go.Slip
theorem i0t (bs : List Bool) {i : Nat} (h : i < bs.length) : vb (bs.take i) * 2 + (bs.getD i false).toNat = vb (bs.take (i + 1)) := by
 rw [p0x bs i h, Nat.mul_comm, List.getD_eq_getElem?_getD, List.getElem?_eq_getElem h]
 rfl
theorem u0b (bs : List Bool) {i : Nat} (h : i < bs.length) : (bs.map Value.bool)[i]? = some (.bool (bs.getD i false)) := by
 rw [List.getElem?_map, List.getD_eq_getElem?_getD, List.getElem?_eq_getElem h]
 rfl
end Go.Slip
namespace Go.Proofs.YtmacohmclpnphaaDoor
open Go.RowKit Go.Slip
theorem l0v : dig B16 2 = [2] := by rw [d0z a0j (by omega), show 2 / B16 = 0 by unfold B16; omega, a0b, show 2 % B16 = 2 by unfold B16; omega]
theorem i1b {w : World} {b : Nat} {t : TypeId} (h : Bt w b t #[.int .i64 2]) : Rf w b (some ⟨b, 0, none⟩) 1 (dig B16 2) := by rw [l0v]; exact c1r (k := 2) h
theorem z0l : 1 = (dig B16 2).length := by rw [l0v]; rfl
theorem d0e {x n k : Nat} (h : x < 2 ^ n) (hk : n ≤ 16 * k) : (dig B16 x).length ≤ k := by
 rw [a0e a0j]
 unfold B16
 rw [show (65536 : Nat) = 2 ^ 16 from rfl, ← Nat.pow_mul]
 exact Nat.lt_of_lt_of_le h (Nat.pow_le_pow_right (by omega) hk)
theorem q0n (bs : List Bool) (p : Option Addr) (n c : Nat) (w : World) (hp : RdV w p (bs.map Value.bool)) (hn : n = bs.length) (hl : bs.length ≤ 200) :
 Calls Tryd.prog 83 #[.slice p n c] w (GRf w (dig B16 (vb bs))) := by
 subst hn
 have hd : ∀ i, (dig B16 (vb (bs.take i))).length ≤ 100 := fun i => d0e (n := 200) (Nat.lt_of_lt_of_le (j0o _) (Nat.pow_le_pow_right (by omega) (by rw [List.length_take]; omega))) (by omega)
 have hd2 : ∀ i, (dig B16 (vb (bs.take i) * 2)).length ≤ 101 := fun i => d0e (n := 201) (by have h := j0o (bs.take i); have h2 : 2 ^ (bs.take i).length ≤ 2 ^ 200 := Nat.pow_le_pow_right (by omega) (by rw [List.length_take]; omega); rw [show 201 = 200 + 1 from rfl, Nat.pow_succ]; generalize 2 ^ 200 = T at *; omega) (by omega)
 have hsucc := fun i h => i0t bs (i := i) h
 have hall : bs.take bs.length = bs := List.take_length
 have hget := fun i h => u0b bs (i := i) h
 have hln : (bs.map Value.bool).length = bs.length := List.length_map ..
 refine calls_of_wp Tryd.func83 rfl ?_
 refine b0a (a' := ⟨((.slice p bs.length c) :: us 21 []).toArray, []⟩) (by kernel_rfl) ?_
 refine yq ?_
 refine yq ?_
 refine wp_seq ?_
 refine yq ?_
 refine wp_block ?_
 refine b0a (a' := ⟨((.slice p bs.length c) :: undef :: (.slice none 0 0) :: (.slice none 0 0) :: (.int .i64 0) :: us 17 []).toArray, []⟩) (by kernel_rfl) ?_
 refine g0u (fun (gk : Nat) U0 a' w' => ∃ (i : Nat) (p3 : Option Addr) (c3 : Nat) (n3 : Nat), a' = ⟨((.slice p bs.length c) :: undef :: (.slice none 0 0) :: (.slice p3 n3 c3) :: (.int .i64 (i : Int)) :: uvs U0 5 16 (undef :: [])).toArray, []⟩ ∧ (Rf w' w.heap.size p3 c3 (dig B16 (vb (bs.take i)))) ∧ Below w.heap.size w w' ∧ (n3 = (dig B16 (vb (bs.take i))).length) ∧ (gk + i = bs.length)) bs.length ?_ (fun Gx hGx => ?_)
 · exact ⟨0, none, 0, 0, by kernel_rfl, (by rw [List.take_zero, x0v, a0b]; exact w0x _ _ _), Below.refl _ _, (by rw [List.take_zero, x0v, a0b]; rfl), (by omega)⟩
 rintro gk0 U0 _ V1 ⟨i, p3, c3, n3, rfl, o3, hbV1, hn3, hgk⟩
 refine hGx _ _ _ ?_
 clear hGx Gx
 have hzV1 := hbV1.size
 have lo3 := fun h => o3.lt h
 refine wp_seq ?_
 refine ye ?_
 rcases Bool.eq_false_or_eq_true (decide ((i : Int) < (bs.length : Int))) with f8 | f8
 · refine yb 3 rfl 8 (decide ((i : Int) < (bs.length : Int))) (true) (f8) ?_
   refine yzt 0 ?_
   refine yT ?_
   refine wp_skip ?_
   refine a0o ?_
   refine wp_seq ?_
   refine wp_block ?_
   refine ye ?_
   refine ywv 1 rfl 12 (.slice (some ⟨V1.heap.size, 0, none⟩) 1 1) #[.int .i64 2] 3 (fun V2 hbV2 hzV2 b12 => ?_)
   replace o3 := (o3.past hbV2)
   refine yc 0 rfl 13 (h1y p3 (some ⟨V1.heap.size, 0, none⟩) n3 1 c3 1 (vb (bs.take i)) 2 (vb (bs.take i) * 2) V2 o3.rd (i1b b12).rd hn3 z0l (by have := hd i; omega) (by rw [l0v]; decide) rfl) (fun Gx hGx => ?_)
   rintro eV3 V3 ⟨p13, c13, rfl, o13, hbV3⟩
   have hzV3 := hbV3.size
   have lo13 := fun h => o13.lt h
   refine ⟨_, rfl, hGx _ _ ?_⟩
   clear hGx Gx
   refine yzt 1 ?_
   refine ye ?_
   replace hp := (hp.past (a0c (a0c hbV1 hbV2) hbV3))
   refine yv 2 rfl 16 (.pointer (some (at_ p i))) ?_ (o0c (p := p) (n := bs.length) (c := c) (m := i) h0s (by have h := hp.solid; rw [hln] at h; exact h) (by kernel_rfl) (by kernel_rfl) (by have := oTr f8; omega))
   rcases Bool.eq_false_or_eq_true (bs.getD i false) with f17 | f17
   · refine yv 0 rfl 17 (.bool true) ?_ ((show _ = Result.ok (Next.value (.bool (bs.getD i false))) _ from (t0m hp l0n (m := i) (by kernel_rfl) (hget i (by have := oTr f8; omega)))).trans (congrArg (fun z => Result.ok (Next.value (.bool z)) _) (show (bs.getD i false) = true from f17)))
     refine yzt 0 ?_
     refine yT ?_
     refine b0b ?_
     refine ywv 1 rfl 19 (.slice (some ⟨V3.heap.size, 0, none⟩) 1 1) #[.int .i64 1] 3 (fun V4 hbV4 hzV4 b19 => ?_)
     replace o13 := (o13.past hbV4)
     refine yc 0 rfl 20 (f1p p13 (some ⟨V3.heap.size, 0, none⟩) _ 1 c13 1 (vb (bs.take i) * 2) 1 (vb (bs.take (i + 1))) V4 o13.rd (t0y b19).rd rfl i0q (by have := hd2 i; omega) (by rw [g0n]; decide) (by rw [← hsucc i (by have := oTr f8; omega), f17, Bool.toNat_true])) (fun Gx hGx => ?_)
     rintro eV5 V5 ⟨p20, c20, rfl, o20, hbV5⟩
     have hzV5 := hbV5.size
     have lo20 := fun h => o20.lt h
     refine ⟨_, rfl, hGx _ _ ?_⟩
     clear hGx Gx
     refine yz 1 ?_
     refine c0c ?_
     refine a0o ?_
     refine b0b ?_
     refine ya 1 rfl 10 .i64 ((i : Int) + 1) (((i + 1 : Nat) : Int)) ((by rw [show ((i : Int) + 1) = ((i + 1 : Nat) : Int) by omega]; exact IntWalk.i64_in _ (by have := oTr f8; omega))) ?_
     refine yz 1 ?_
     refine a0o ?_
     refine ⟨gk0 - 1, (by have := oTr f8; omega), ?_⟩
     exact ⟨i + 1, p20, c20, (dig B16 (vb (bs.take (i + 1)))).length, by kernel_rfl, o20.mono (by omega), (a0c (a0c (a0c (a0c hbV1 hbV2) hbV3) hbV4) hbV5), rfl, (by have := oTr f8; omega)⟩
   refine yv 0 rfl 17 (.bool false) ?_ ((show _ = Result.ok (Next.value (.bool (bs.getD i false))) _ from (t0m hp l0n (m := i) (by kernel_rfl) (hget i (by have := oTr f8; omega)))).trans (congrArg (fun z => Result.ok (Next.value (.bool z)) _) (show (bs.getD i false) = false from f17)))
   refine yzt 0 ?_
   refine yF ?_
   refine wp_skip ?_
   refine c0c ?_
   refine a0o ?_
   refine b0b ?_
   refine ya 1 rfl 10 .i64 ((i : Int) + 1) (((i + 1 : Nat) : Int)) ((by rw [show ((i : Int) + 1) = ((i + 1 : Nat) : Int) by omega]; exact IntWalk.i64_in _ (by have := oTr f8; omega))) ?_
   refine yz 1 ?_
   refine a0o ?_
   refine ⟨gk0 - 1, (by have := oTr f8; omega), ?_⟩
   exact ⟨i + 1, p13, c13, (dig B16 (vb (bs.take i) * 2)).length, by kernel_rfl, (by rw [← hsucc i (by have := oTr f8; omega), f17, Bool.toNat_false, Nat.add_zero]; exact o13.mono (by omega)), (a0c (a0c hbV1 hbV2) hbV3), (by rw [← hsucc i (by have := oTr f8; omega), f17, Bool.toNat_false, Nat.add_zero]), (by have := oTr f8; omega)⟩
 refine yb 3 rfl 8 (decide ((i : Int) < (bs.length : Int))) (false) (f8) ?_
 refine yzt 0 ?_
 refine yF ?_
 refine wp_exit ?_
 repeat (with_reducible refine d0l ?_)
 refine j0h (id := 0) ?_
 refine a0o ?_
 refine yq ?_
 refine wp_ret ?_
 repeat (first | with_reducible refine a0u ?_ | with_reducible refine a0p ?_)
 refine yret (.slice p3 n3 c3) (res1 Tryd.results83 rvt) ?_
 have hi : i = bs.length := by have := oFa f8; omega
 rw [hi, hall] at o3 hn3
 exact ⟨p3, c3, by rw [hn3], o3.mono (by omega), hbV1⟩
def z0m (w : World) (v : Vr) (en : Ending) (w' : World) : Prop :=
 ∃ p c, en = .returned (.agg #[.int .i64 (v.cls : Int), .bool v.neg, .bool v.x.neg, .slice p (dig B16 v.x.m).length c, .int .i64 v.x.e]) ∧ Rf w' w.heap.size p c (dig B16 v.x.m) ∧ Below w.heap.size w w'
theorem q0o {w w' : World} {k : Nat} {n : Bool} {en : Ending} (h : en = .returned (.agg #[.int .i64 (k : Int), .bool n, .bool false, .slice none 0 0, .int .i64 0])) (hb : Below w.heap.size w w') : z0m w ⟨k, n, ⟨false, 0, 0⟩⟩ en w' := by
 refine ⟨none, 0, ?_, ?_, hb⟩
 · rw [h, a0b]; rfl
 · rw [a0b]; exact w0x _ _ _
theorem c0r (f : Fm) (g : Bool) (bg bf x : Nat) (p : Option Addr) (c b0 : Nat) (pw : Int) (w : World) (hp : Rf w b0 p c (dig B16 x)) (hl : (dig B16 x).length ≤ 1000) (hpw : -100000 ≤ pw ∧ pw ≤ 100000)
 (Bg : Bt w bg 4 #[.bool g]) (Bf : Bt w bf 53 #[.int .i64 (f.size : Int), .int .i64 (f.E : Int), .int .i64 (f.F : Int), .int .i64 f.g.rad, .int .i64 f.g.digs, .int .i64 f.g.lo, .int .i64 f.g.hi, .bool f.g.grad, .int .i64 (f.fam : Int)]) :
 Calls Tryd.prog 84 #[.slice p (dig B16 x).length c, .int .i64 pw, .pointer (some ⟨bg, 0, none⟩), .pointer (some ⟨bf, 0, none⟩)] w (z0m w (f.vr g ⟨2, x, pw⟩)) := by
 have hx0 := a0g a0j x
 have wp := b0d f.g
 have lg := Bg.lt
 have lf := Bf.lt
 have hmu := g0a (wd := wid f.g) (k := pw) (B := 100000) wp.2 hpw
 by_cases h0 : x = 0
 · have hv : f.vr g ⟨2, x, pw⟩ = ⟨1, g, ⟨false, 0, 0⟩⟩ := by unfold Fm.vr Dc.c; simp [h0]
   have hb0 : bare ⟨g, x, wid f.g * pw⟩ = ⟨false, 0, 0⟩ := by rw [h0]; rfl
   rw [hv]
   generalize hmw : (wid f.g : Int) * pw = mw at *
   have HMW := hi0 hmw
   clear hmw
   have I := Inv.startR w [bg, bf] [⟨4, [.v (.bool g)], true⟩, ⟨53, [.v (.int .i64 (f.size : Int)), .v (.int .i64 (f.E : Int)), .v (.int .i64 (f.F : Int)), .v (.int .i64 f.g.rad), .v (.int .i64 f.g.digs), .v (.int .i64 f.g.lo), .v (.int .i64 f.g.hi), .v (.bool f.g.grad), .v (.int .i64 (f.fam : Int))], true⟩] [rfF b0 p c (dig B16 x)] ⟨Bg, Bf, True.intro⟩ ⟨hp, True.intro⟩
   refine a0d [.v (.slice p (dig B16 x).length c), .v (.int .i64 pw), .p 0 0, .p 1 0] I Tryd.func84 ?_
   refine zcut I none (fun fr bx gs => ∃ (U1 : Nat → Value) (p16 : Option Addr) (c16 : Nat), fr = (.v (.slice p (dig B16 x).length c) :: .v (.int .i64 pw) :: .p 0 0 :: .p 1 0 :: su 2 (.p 2 0 :: .p 3 0 :: sw U1 8 12 (.v undef :: sw U1 21 5 [])) : List SV) ∧ bx = [⟨4, [.v (.bool g)], true⟩, ⟨53, [.v (.int .i64 (f.size : Int)), .v (.int .i64 (f.E : Int)), .v (.int .i64 (f.F : Int)), .v (.int .i64 f.g.rad), .v (.int .i64 f.g.digs), .v (.int .i64 f.g.lo), .v (.int .i64 f.g.hi), .v (.bool f.g.grad), .v (.int .i64 (f.fam : Int))], true⟩, ⟨61, [.v (.int .i64 0), .v (.bool false), .v (.bool false), .v (.slice none 0 0), .v (.int .i64 0)], false⟩, ⟨59, [.v (.bool false), .v (.slice p16 (dig B16 0).length c16), .v (.int .i64 0)], false⟩] ∧ gs = [rfF w.heap.size p16 c16 (dig B16 0), rfF b0 p c (dig B16 x)]) ?_ ?_
   · intro J hJ Al W I
     refine zd [] I fun Al W I => ?_
     refine zk [0, 1, 2, 3, 5] I fun I => ?_
     refine zo2 4 9 I (fun I => ?_) (fun I => ?_)
     · refine zq I (fun Al W I => c0k f.g W) fun Al W I => ?_
       refine zki 6 I .i64 (((wid f.g : Nat) : Int) * pw) (mw) ((by rw [HMW.out]; exact iwo)) fun I => ?_
       refine zk [7] I fun I => ?_
       refine zo2 8 9 I (fun I => ?_) (fun I => ?_)
       · refine zqr I (fun Al W I => have hzW := I.bel.size; l0t g p _ c mw x ⟨false, 0, 0⟩ W I.fa.1.rd rfl (by omega) (by omega) hb0) fun Al W p16 c16 I => ?_
         refine zo 9 I fun I => ?_
         refine zn I fun Al W I => ?_
         refine zo 10 I fun I => ?_
         refine zn I fun Al W I => ?_
         exact a0m I J fun Al W U I => hJ _ _ _ _ _ ⟨U, p16, c16, rfl, rfl, rfl⟩ (I.pick [0, 1])
       refine zn I fun Al W I => ?_
       refine zo 8 I fun I => ?_
       refine zqr I (fun Al W I => have hzW := I.bel.size; l0t g p _ c mw x ⟨false, 0, 0⟩ W I.fa.1.rd rfl (by omega) (by omega) hb0) fun Al W p16 c16 I => ?_
       refine zo 10 I fun I => ?_
       refine zn I fun Al W I => ?_
       exact a0m I J fun Al W U I => hJ _ _ _ _ _ ⟨U, p16, c16, rfl, rfl, rfl⟩ (I.pick [0, 1])
     refine zn I fun Al W I => ?_
     refine zo 4 I fun I => ?_
     refine zq I (fun Al W I => c0k f.g W) fun Al W I => ?_
     refine zki 6 I .i64 (((wid f.g : Nat) : Int) * pw) (mw) ((by rw [HMW.out]; exact iwo)) fun I => ?_
     refine zk [7] I fun I => ?_
     refine zo 8 I fun I => ?_
     refine zqr I (fun Al W I => have hzW := I.bel.size; l0t g p _ c mw x ⟨false, 0, 0⟩ W I.fa.1.rd rfl (by omega) (by omega) hb0) fun Al W p16 c16 I => ?_
     refine zo 10 I fun I => ?_
     refine zn I fun Al W I => ?_
     exact a0m I J fun Al W U I => hJ _ _ _ _ _ ⟨U, p16, c16, rfl, rfl, rfl⟩ (I.pick [0, 1])
   rintro _ _ _ ⟨U1, p16, c16, rfl, rfl, rfl⟩ Al W I
   refine zb I 20 ((((dig B16 0).length : Nat) : Int) == 0) (true) (beq_iff_eq.2 (by rw [a0b]; rfl)) fun Al W I => ?_
   exact zret I fun Al W I => q0o rfl I.below
 · have hv : f.vr g ⟨2, x, pw⟩ = ⟨2, g, bare ⟨g, x, wid f.g * pw⟩⟩ := by unfold Fm.vr Dc.c; simp [h0]
   have hne : (bare ⟨g, x, wid f.g * pw⟩ : Dv).m ≠ 0 := by
    unfold bare
    rw [if_neg h0]
    have := (c0j x (by omega)).2
    intro h
    simp only at h
    rw [h] at this
    simp at this
   rw [hv]
   generalize hmw : (wid f.g : Int) * pw = mw at *
   have HMW := hi0 hmw
   clear hmw
   generalize hd : bare ⟨g, x, mw⟩ = d at *
   have HD := hi0 hd
   clear hd
   have hd0 := a0g a0j d.m
   have I := Inv.startR w [bg, bf] [⟨4, [.v (.bool g)], true⟩, ⟨53, [.v (.int .i64 (f.size : Int)), .v (.int .i64 (f.E : Int)), .v (.int .i64 (f.F : Int)), .v (.int .i64 f.g.rad), .v (.int .i64 f.g.digs), .v (.int .i64 f.g.lo), .v (.int .i64 f.g.hi), .v (.bool f.g.grad), .v (.int .i64 (f.fam : Int))], true⟩] [rfF b0 p c (dig B16 x)] ⟨Bg, Bf, True.intro⟩ ⟨hp, True.intro⟩
   refine a0d [.v (.slice p (dig B16 x).length c), .v (.int .i64 pw), .p 0 0, .p 1 0] I Tryd.func84 ?_
   refine zcut I none (fun fr bx gs => ∃ (U1 : Nat → Value) (p16 : Option Addr) (c16 : Nat), fr = (.v (.slice p (dig B16 x).length c) :: .v (.int .i64 pw) :: .p 0 0 :: .p 1 0 :: su 2 (.p 2 0 :: .p 3 0 :: sw U1 8 12 (.v undef :: sw U1 21 5 [])) : List SV) ∧ bx = [⟨4, [.v (.bool g)], true⟩, ⟨53, [.v (.int .i64 (f.size : Int)), .v (.int .i64 (f.E : Int)), .v (.int .i64 (f.F : Int)), .v (.int .i64 f.g.rad), .v (.int .i64 f.g.digs), .v (.int .i64 f.g.lo), .v (.int .i64 f.g.hi), .v (.bool f.g.grad), .v (.int .i64 (f.fam : Int))], true⟩, ⟨61, [.v (.int .i64 0), .v (.bool false), .v (.bool false), .v (.slice none 0 0), .v (.int .i64 0)], false⟩, ⟨59, [.v (.bool d.neg), .v (.slice p16 (dig B16 d.m).length c16), .v (.int .i64 d.e)], false⟩] ∧ gs = [rfF w.heap.size p16 c16 (dig B16 d.m), rfF b0 p c (dig B16 x)]) ?_ ?_
   · intro J hJ Al W I
     refine zd [] I fun Al W I => ?_
     refine zk [0, 1, 2, 3, 5] I fun I => ?_
     refine zo2 4 9 I (fun I => ?_) (fun I => ?_)
     · refine zq I (fun Al W I => c0k f.g W) fun Al W I => ?_
       refine zki 6 I .i64 (((wid f.g : Nat) : Int) * pw) (mw) ((by rw [HMW.out]; exact iwo)) fun I => ?_
       refine zk [7] I fun I => ?_
       refine zo2 8 9 I (fun I => ?_) (fun I => ?_)
       · refine zqr I (fun Al W I => have hzW := I.bel.size; l0t g p _ c mw x d W I.fa.1.rd rfl (by omega) (by omega) HD.out) fun Al W p16 c16 I => ?_
         refine zo 9 I fun I => ?_
         refine zn I fun Al W I => ?_
         refine zo 10 I fun I => ?_
         refine zn I fun Al W I => ?_
         exact a0m I J fun Al W U I => hJ _ _ _ _ _ ⟨U, p16, c16, rfl, rfl, rfl⟩ (I.pick [0, 1])
       refine zn I fun Al W I => ?_
       refine zo 8 I fun I => ?_
       refine zqr I (fun Al W I => have hzW := I.bel.size; l0t g p _ c mw x d W I.fa.1.rd rfl (by omega) (by omega) HD.out) fun Al W p16 c16 I => ?_
       refine zo 10 I fun I => ?_
       refine zn I fun Al W I => ?_
       exact a0m I J fun Al W U I => hJ _ _ _ _ _ ⟨U, p16, c16, rfl, rfl, rfl⟩ (I.pick [0, 1])
     refine zn I fun Al W I => ?_
     refine zo 4 I fun I => ?_
     refine zq I (fun Al W I => c0k f.g W) fun Al W I => ?_
     refine zki 6 I .i64 (((wid f.g : Nat) : Int) * pw) (mw) ((by rw [HMW.out]; exact iwo)) fun I => ?_
     refine zk [7] I fun I => ?_
     refine zo 8 I fun I => ?_
     refine zqr I (fun Al W I => have hzW := I.bel.size; l0t g p _ c mw x d W I.fa.1.rd rfl (by omega) (by omega) HD.out) fun Al W p16 c16 I => ?_
     refine zo 10 I fun I => ?_
     refine zn I fun Al W I => ?_
     exact a0m I J fun Al W U I => hJ _ _ _ _ _ ⟨U, p16, c16, rfl, rfl, rfl⟩ (I.pick [0, 1])
   rintro _ _ _ ⟨U1, p16, c16, rfl, rfl, rfl⟩ Al W I
   refine zb I 20 ((((dig B16 d.m).length : Nat) : Int) == 0) (false) (bFn (by omega)) fun Al W I => ?_
   exact zret I fun Al W I => ⟨p16, c16, rfl, I.fa.1.mono (by omega), I.below⟩
end Go.Proofs.YtmacohmclpnphaaDoor
namespace Go.Slip
theorem m0d (r : List Bool) {i : Nat} (h : i < r.length) : (r.take (i + 1)).all id = ((r.take i).all id && r.getD i false) := by
 rw [o0g r i h, List.getD_eq_getElem?_getD, List.getElem?_eq_getElem h]
 rfl
theorem n0b {X F d : Nat} (h : X < 2 ^ F) (hF : F ≤ 64) (hd : d ≤ 120) : X + 2 ^ d < 2 ^ 122 := by
 have h1 : 2 ^ F ≤ 2 ^ 64 := Nat.pow_le_pow_right (by omega) hF
 have h2 : 2 ^ d ≤ 2 ^ 120 := Nat.pow_le_pow_right (by omega) hd
 omega
theorem c1d {a b : Nat} (h : cmpN a b < 0) : a < b := by
 unfold cmpN at h
 split at h
 · assumption
 · split at h <;> omega
theorem s0l {a b : Nat} (h : ¬ cmpN a b < 0) : ¬ a < b := fun k => by
 apply h
 rw [g0d k]
 decide
theorem c1e {w : World} {p : Option Addr} {x : Bool} {r : List Bool} (h : RdV w p ((x :: r).map Value.bool)) (E : Nat) : RdV w (p.map (·.add (1 + E))) ((r.drop E).map Value.bool) := by
 have := h.drop (1 + E)
 rw [show ((x :: r).map Value.bool).drop (1 + E) = (r.drop E).map Value.bool by rw [Nat.add_comm, List.map_cons, List.drop_succ_cons, List.map_drop]] at this
 exact this
end Go.Slip
namespace Go.Proofs.YtmacohmclpnphaaDoor
open Go.RowKit Go.Slip
def i0u (w : World) (v : Vr) (g : Bool) (en : Ending) (w' : World) : Prop :=
 ∃ p c, en = .returned (.tuple #[.agg #[.int .i64 (v.cls : Int), .bool v.neg, .bool v.x.neg, .slice p (dig B16 v.x.m).length c, .int .i64 v.x.e], .bool g]) ∧ Rf w' w.heap.size p c (dig B16 v.x.m) ∧ Below w.heap.size w w'
theorem b0z {w w' : World} {v : Vr} {k : Nat} {n g : Bool} {en : Ending} (hv : v = ⟨k, n, ⟨false, 0, 0⟩⟩) (h : en = .returned (.tuple #[.agg #[.int .i64 (k : Int), .bool n, .bool false, .slice none 0 0, .int .i64 0], .bool g])) (hb : Below w.heap.size w w') : i0u w v g en w' := by
 subst hv
 refine ⟨none, 0, ?_, ?_, hb⟩
 · rw [h, a0b]; rfl
 · rw [a0b]; exact w0x _ _ _
theorem d0m {w w' : World} {v u : Vr} {g : Bool} {p : Option Addr} {c base : Nat} {en : Ending} (hv : v = u) (h : en = .returned (.tuple #[.agg #[.int .i64 (u.cls : Int), .bool u.neg, .bool u.x.neg, .slice p (dig B16 u.x.m).length c, .int .i64 u.x.e], .bool g])) (ho : Rf w' base p c (dig B16 u.x.m)) (hB : w.heap.size ≤ base) (hb : Below w.heap.size w w') : i0u w v g en w' := by
 subst hv
 exact ⟨p, c, h, ho.mono hB, hb⟩
theorem l0w (f : Fm) (g : Bool) {k : Nat} (hk : k ≠ 2) : f.vr g ⟨k, 0, 0⟩ = ⟨k, if k ≤ 3 then g else false, ⟨false, 0, 0⟩⟩ := by
 unfold Fm.vr Dc.c
 simp [hk]
theorem g0o (n : Int) (s : ByteArray) (w : World) (hn : IsFm n) (hs : s.size = (fmt n).size) :
 Calls Tryd.prog 34 #[.int .i64 n, .string s] w (i0u w ((fmt n).refN (a0s (fmt n) s)) ((fmt n).neg (a0s (fmt n) s))) := by
 have G := c0e hn
 have hext := d1k hn
 have HF := fun W => hi0 (e0u n hn W)
 have HB := fun W => hi0 (o0s n s W hn hs)
 generalize fmt n = f at *
 have z1 := G.sz
 have z2 := G.e2
 have z3 := G.f2
 have z4 := G.bits
 have z5 := G.lo
 have z6 := G.f1
 have hl0 : (a0x s).length = f.size := by rw [b0s, hs]
 have hlL : (ordL f.ord (a0x s)).length = f.size := by rw [b0o, hl0]
 have hN : a0s f s = vb (f0a (ordL f.ord (a0x s))) := (s0a _ (g0w (fun _ => by omega) (j0l s))).symm
 have hlB : (f0a (ordL f.ord (a0x s))).length = 1 + f.E + f.F := by rw [g0j, hlL]; omega
 rw [hN]
 clear hN
 generalize f0a (ordL f.ord (a0x s)) = bs at *
 obtain ⟨x, r, rfl⟩ : ∃ x r, bs = x :: r := by
  cases bs with
  | nil => simp at hlB; omega
  | cons x r => exact ⟨x, r, rfl⟩
 have hr : r.length = f.E + f.F := by rw [List.length_cons] at hlB; omega
 unfold Fm.refN Fm.decN
 rw [t0t hr, t0u hr, p0w hr]
 have hEl : (r.take f.E).length = f.E := by rw [List.length_take]; omega
 have hXl : (r.drop f.E).length = f.F := by rw [List.length_drop]; omega
 have hones := x0y (r.take f.E)
 rw [hEl] at hones
 have hElt := j0o (r.take f.E)
 rw [hEl] at hElt
 have hXlt := j0o (r.drop f.E)
 rw [hXl] at hXlt
 have HV := fun W p m c h hm => hi0 (q0n (r.drop f.E) p m c W h hm (by omega))
 have hvt := fun i h => i0t r (i := i) h
 have hat := fun i h => m0d r (i := i) h
 have hev : ∀ i, i ≤ f.E → vb (r.take i) < 32768 := fun i hi => Nat.lt_of_lt_of_le (j0o _) (by rw [List.length_take, show (32768 : Nat) = 2 ^ 15 from rfl]; exact Nat.pow_le_pow_right (by omega) (by omega))
 have hget := fun i h => u0b r (i := i) h
 generalize hEE : vb (r.take f.E) = EE at *
 generalize hXX : vb (r.drop f.E) = X at *
 have hXd := d0e hXlt (k := 4) (by omega)
 have hX0 := a0g a0j X
 have h15 : EE < 32768 := Nat.lt_of_lt_of_le hElt (by rw [show (32768 : Nat) = 2 ^ 15 from rfl]; exact Nat.pow_le_pow_right (by omega) (by omega))
 have hg := b0h G.g
 have hd1 := hg.d1
 have hd2 := hg.d2
 obtain ⟨dN, hdN⟩ : ∃ dN : Nat, f.g.digs - 1 = (dN : Int) := ⟨(f.g.digs - 1).toNat, by omega⟩
 have hdl : (dig B16 (2 ^ dN)).length ≤ 8 := d0e (n := 121) (Nat.pow_lt_pow_right (by omega) (by omega)) (by omega)
 have hd1F := G.d1
 have hextF := G.ext
 have hfam := G.fam
 have hln : (List.map Value.bool (x :: r)).length = (x :: r).length := List.length_map ..
 have hlr : (x :: r).length = 1 + f.E + f.F := hlB
 clear hXX hl0 hlL hXl hs
 have I := Inv.start w [] True.intro
 refine a0d [.v (.int .i64 n), .v (.string s)] I Tryd.func34 ?_
 refine zq I (fun Al W I => (HF W).out) fun Al W I => ?_
 refine zg I (fun Al W I => (HB W).out) fun Al V Iv _ hB _ kz => ?_
 rintro _ W ⟨p8, c8, rfl, o8, hb⟩
 refine ⟨_, rfl, kz _ _ hb fun I => ?_⟩
 have I := I.ownv o8
 refine zx I 26 (fun _ => .pointer (some (at_ p8 0))) (fun Al W I => m0q (p := p8) (n := (x :: r).length) (c := c8) (m := 0) h0s (by have h := I.fa.1.rd.solid; rw [hln] at h; exact h) (by omega)) fun Al W I => ?_
 refine zx I 27 (fun _ => .bool x) (fun Al W I => p0t I.fa.1.rd l0n (m := 0) rfl) fun Al W I => ?_
 refine x0l I (fun gk fr bx gs => ∃ (U900 : Nat → Value) (i : Nat) (e : Nat) (o : Bool), fr = (.v (.int .i64 n) :: .v (.string s) :: su 2 (.p 0 0 :: .v (.bool false) :: .p 1 0 :: .v (U900 7) :: .v (.slice p8 (x :: r).length c8) :: .p 2 0 :: .v (.int .i64 (e : Int)) :: .v (.bool o) :: .v (.int .i64 ((i + 1 : Nat) : Int)) :: su 4 (sw U900 17 48 (su 2 (sw U900 67 8 (.v undef :: sw U900 76 2 (su 2 (sw U900 80 15 (su 2 (sw U900 97 3 (.v undef :: sw U900 101 12 (.v undef :: sw U900 114 11 (.v undef :: sw U900 126 2 (.v undef :: sw U900 129 6 (.v undef :: sw U900 136 12 [])))))))))))))) : List SV) ∧ bx = [⟨61, [.v (.int .i64 0), .v (.bool false), .v (.bool false), .v (.slice none 0 0), .v (.int .i64 0)], false⟩, ⟨53, [.v (.int .i64 (f.size : Int)), .v (.int .i64 (f.E : Int)), .v (.int .i64 (f.F : Int)), .v (.int .i64 f.g.rad), .v (.int .i64 f.g.digs), .v (.int .i64 f.g.lo), .v (.int .i64 f.g.hi), .v (.bool f.g.grad), .v (.int .i64 (f.fam : Int))], false⟩, ⟨4, [.v (.bool x)], false⟩] ∧ gs = [e1j w.heap.size 4 p8 c8 ((x :: r).map Value.bool)] ∧ (e = vb (r.take i)) ∧ (o = (r.take i).all id) ∧ (gk + i = f.E)) f.E (fun Al W U I => ⟨_, ⟨U, 0, 0, true, rfl, rfl, rfl, rfl, rfl, (by omega)⟩, I.pick [0]⟩) ?_
 rintro J gk0 _ _ _ ⟨U900, i, e, o, rfl, rfl, rfl, he, ho, hgk⟩ hJ Al W I
 have hel : e < 32768 := by rw [he]; exact hev i (by omega)
 rcases Bool.eq_false_or_eq_true (decide (((i + 1 : Nat) : Int) ≤ (f.E : Int))) with f31 | f31
 · refine zb I 31 (decide (((i + 1 : Nat) : Int) ≤ (f.E : Int))) (true) (f31) fun Al W I => ?_
   refine zi I 35 .i64 ((2 : Int) * (e : Int)) (((2 * e : Nat) : Int)) ((by rw [show ((2 : Int) * (e : Int)) = ((2 * e : Nat) : Int) by omega]; exact iwo)) fun Al W I => ?_
   refine zx I 38 (fun _ => .pointer (some (at_ p8 (i + 1)))) (fun Al W I => m0q (p := p8) (n := (x :: r).length) (c := c8) (m := i + 1) h0s (by have h := I.fa.1.rd.solid; rw [hln] at h; exact h) (by have := oTr f31; omega)) fun Al W I => ?_
   rcases Bool.eq_false_or_eq_true (r.getD i false) with f39 | f39
   · refine zx I 39 (fun _ => .bool true) (fun Al W I => (p0t I.fa.1.rd l0n (m := i + 1) (by rw [List.map_cons, List.getElem?_cons_succ]; exact hget i (by have := oTr f31; omega))).trans (congrArg (fun z => Result.ok (Value.bool z) W) (show (r.getD i false) = true from f39))) fun Al W I => ?_
     refine zi I 41 .i64 (((2 * e : Nat) : Int) + 1) (((2 * e + 1 : Nat) : Int)) ((by rw [show (((2 * e : Nat) : Int) + 1) = ((2 * e + 1 : Nat) : Int) by omega]; exact iwo)) fun Al W I => ?_
     rcases Bool.eq_false_or_eq_true (o) with f43 | f43
     · refine zb I 43 (o) (true) (f43) fun Al W I => ?_
       refine zx I 46 (fun _ => .pointer (some (at_ p8 (i + 1)))) (fun Al W I => m0q (p := p8) (n := (x :: r).length) (c := c8) (m := i + 1) h0s (by have h := I.fa.1.rd.solid; rw [hln] at h; exact h) (by have := oTr f31; omega)) fun Al W I => ?_
       refine zx I 47 (fun _ => .bool true) (fun Al W I => (p0t I.fa.1.rd l0n (m := i + 1) (by rw [List.map_cons, List.getElem?_cons_succ]; exact hget i (by have := oTr f31; omega))).trans (congrArg (fun z => Result.ok (Value.bool z) W) (show (r.getD i false) = true from f39))) fun Al W I => ?_
       refine zi I 33 .i64 (((i + 1 : Nat) : Int) + 1) (((i + 1 + 1 : Nat) : Int)) ((by rw [show (((i + 1 : Nat) : Int) + 1) = ((i + 1 + 1 : Nat) : Int) by omega]; exact IntWalk.i64_in _ (by have := oTr f31; omega))) fun Al W I => ?_
       exact a0m I J fun Al W U I => hJ (gk0 - 1) _ _ _ _ _ ((by have := oTr f31; omega)) ⟨U, i + 1, 2 * e + 1, true, rfl, rfl, rfl, (by rw [← hvt i (by have := oTr f31; omega), f39, he, Bool.toNat_true, Nat.mul_comm]), (by rw [hat i (by have := oTr f31; omega), f39, ← ho, f43]; rfl), (by have := oTr f31; omega)⟩ (I.pick [0])
     refine zb I 43 (o) (false) (f43) fun Al W I => ?_
     refine zi I 33 .i64 (((i + 1 : Nat) : Int) + 1) (((i + 1 + 1 : Nat) : Int)) ((by rw [show (((i + 1 : Nat) : Int) + 1) = ((i + 1 + 1 : Nat) : Int) by omega]; exact IntWalk.i64_in _ (by have := oTr f31; omega))) fun Al W I => ?_
     exact a0m I J fun Al W U I => hJ (gk0 - 1) _ _ _ _ _ ((by have := oTr f31; omega)) ⟨U, i + 1, 2 * e + 1, false, rfl, rfl, rfl, (by rw [← hvt i (by have := oTr f31; omega), f39, he, Bool.toNat_true, Nat.mul_comm]), (by rw [hat i (by have := oTr f31; omega), f39, ← ho, f43]; rfl), (by have := oTr f31; omega)⟩ (I.pick [0])
   refine zx I 39 (fun _ => .bool false) (fun Al W I => (p0t I.fa.1.rd l0n (m := i + 1) (by rw [List.map_cons, List.getElem?_cons_succ]; exact hget i (by have := oTr f31; omega))).trans (congrArg (fun z => Result.ok (Value.bool z) W) (show (r.getD i false) = false from f39))) fun Al W I => ?_
   rcases Bool.eq_false_or_eq_true (o) with f43 | f43
   · refine zb I 43 (o) (true) (f43) fun Al W I => ?_
     refine zx I 46 (fun _ => .pointer (some (at_ p8 (i + 1)))) (fun Al W I => m0q (p := p8) (n := (x :: r).length) (c := c8) (m := i + 1) h0s (by have h := I.fa.1.rd.solid; rw [hln] at h; exact h) (by have := oTr f31; omega)) fun Al W I => ?_
     refine zx I 47 (fun _ => .bool false) (fun Al W I => (p0t I.fa.1.rd l0n (m := i + 1) (by rw [List.map_cons, List.getElem?_cons_succ]; exact hget i (by have := oTr f31; omega))).trans (congrArg (fun z => Result.ok (Value.bool z) W) (show (r.getD i false) = false from f39))) fun Al W I => ?_
     refine zi I 33 .i64 (((i + 1 : Nat) : Int) + 1) (((i + 1 + 1 : Nat) : Int)) ((by rw [show (((i + 1 : Nat) : Int) + 1) = ((i + 1 + 1 : Nat) : Int) by omega]; exact IntWalk.i64_in _ (by have := oTr f31; omega))) fun Al W I => ?_
     exact a0m I J fun Al W U I => hJ (gk0 - 1) _ _ _ _ _ ((by have := oTr f31; omega)) ⟨U, i + 1, 2 * e, false, rfl, rfl, rfl, (by rw [← hvt i (by have := oTr f31; omega), f39, he, Bool.toNat_false, Nat.mul_comm, Nat.add_zero]), (by rw [hat i (by have := oTr f31; omega), f39, ← ho, f43]; rfl), (by have := oTr f31; omega)⟩ (I.pick [0])
   refine zb I 43 (o) (false) (f43) fun Al W I => ?_
   refine zi I 33 .i64 (((i + 1 : Nat) : Int) + 1) (((i + 1 + 1 : Nat) : Int)) ((by rw [show (((i + 1 : Nat) : Int) + 1) = ((i + 1 + 1 : Nat) : Int) by omega]; exact IntWalk.i64_in _ (by have := oTr f31; omega))) fun Al W I => ?_
   exact a0m I J fun Al W U I => hJ (gk0 - 1) _ _ _ _ _ ((by have := oTr f31; omega)) ⟨U, i + 1, 2 * e, false, rfl, rfl, rfl, (by rw [← hvt i (by have := oTr f31; omega), f39, he, Bool.toNat_false, Nat.mul_comm, Nat.add_zero]), (by rw [hat i (by have := oTr f31; omega), f39, ← ho, f43]; rfl), (by have := oTr f31; omega)⟩ (I.pick [0])
 refine zb I 31 (decide (((i + 1 : Nat) : Int) ≤ (f.E : Int))) (false) (f31) fun Al W I => ?_
 have hiE : i = f.E := by have := oFa f31; omega
 have heE : e = EE := by rw [he, hiE, hEE]
 have hoE : o = true ↔ EE = 2 ^ f.E - 1 := by rw [ho, hiE]; exact hones
 clear he ho hgk hel hev hget hvt hat hones hEE
 subst heE
 refine zi I 52 .i64 ((1 : Int) + (f.E : Int)) (((1 + f.E : Nat) : Int)) ((by rw [show ((1 : Int) + (f.E : Int)) = ((1 + f.E : Nat) : Int) by omega]; exact iwo)) fun Al W I => ?_
 refine zx I 53 (fun _ => .slice (p8.map (·.add (1 + f.E))) ((x :: r).length - (1 + f.E)) (c8 - (1 + f.E))) (fun Al W I => h1c h0s (m := 1 + f.E) (by omega) (by have := I.fa.1.le_cap; rw [hln] at this; omega) (by have := I.fa.1.le_cap; rw [hln] at this; omega)) fun Al W I => ?_
 refine zqr I (fun Al W I => have hzW := I.bel.size; (HV W (p8.map (·.add (1 + f.E))) ((x :: r).length - (1 + f.E)) (c8 - (1 + f.E)) (c1e I.fa.1.rd f.E) (by rw [List.length_drop, hlr]; omega)).out) fun Al W p54 c54 I => ?_
 refine zi I 58 .i64 (f.g.digs - 1) ((dN : Int)) ((by rw [hdN]; exact iwo)) fun Al W I => ?_
 refine zqr I (fun Al W I => have hzW := I.bel.size; h1x (dN : Int) dN rfl (by omega) W) fun Al W p59 c59 I => ?_
 rcases Bool.eq_false_or_eq_true ((f.fam : Int) == 2) with f67 | f67
 · refine zb I 67 ((f.fam : Int) == 2) (true) (f67) fun Al W I => ?_
   refine zd [0] I fun Al W I => ?_
   refine zk [0, 1, 2, 3] I fun I => ?_
   refine zki 4 I .i64 (f.g.lo + (e : Int)) (f.g.lo + (e : Int)) (iwo) fun I => ?_
   refine zk [6] I fun I => ?_
   refine zo 5 I fun I => ?_
   refine zg I (fun Al W I => have hzW := I.bel.size; c0r f x (lk 0 Al 2) (lk 0 Al 1) (X) p54 c54 _ (f.g.lo + (e : Int)) W I.fa.2.1 (by omega) (by omega) (I.box 2 4 _) (I.box 1 53 _)) fun Al V Iv _ hB _ kz => ?_
   rintro _ W ⟨pN, cN, rfl, oN, hb⟩
   have hD : f.dec x e X = ⟨2, X, f.g.lo + (e : Int)⟩ := by unfold Fm.dec; rw [if_pos (by have := beq_iff_eq.1 f67; omega)]
   refine ⟨_, rfl, kz _ _ hb fun I => ?_⟩
   have I := I.rf oN (hB _) Iv
   refine zo 7 I fun I => ?_
   refine zn I fun Al W I => ?_
   refine zk [8] I fun I => ?_
   exact zret I (v := fun Al => .tuple #[.agg #[.int .i64 (((f.vr x ⟨2, X, f.g.lo + (e : Int)⟩).cls : Nat) : Int), .bool ((f.vr x ⟨2, X, f.g.lo + (e : Int)⟩).neg), .bool ((f.vr x ⟨2, X, f.g.lo + (e : Int)⟩).x.neg), .slice pN (dig B16 (f.vr x ⟨2, X, f.g.lo + (e : Int)⟩).x.m).length cN, .int .i64 ((f.vr x ⟨2, X, f.g.lo + (e : Int)⟩).x.e)], .bool x]) fun Al W I => d0m (by rw [hD]) rfl I.fa.1 (by omega) I.below
 refine zb I 67 ((f.fam : Int) == 2) (false) (f67) fun Al W I => ?_
 rcases Bool.eq_false_or_eq_true ((f.fam : Int) == 3) with f76 | f76
 · refine zb I 76 ((f.fam : Int) == 3) (true) (f76) fun Al W I => ?_
   rcases Bool.eq_false_or_eq_true ((e : Int) == 0) with f78 | f78
   · refine zb I 78 ((e : Int) == 0) (true) (f78) fun Al W I => ?_
     rcases Bool.eq_false_or_eq_true (x) with f79 | f79
     · refine zb I 79 (x) (true) (f79) fun Al W I => ?_
       refine zd [0] I fun Al W I => ?_
       have hD : f.dec x e X = ⟨5, 0, 0⟩ := by unfold Fm.dec; rw [if_neg (by have := beq_iff_eq.1 f76; omega), if_neg (by have := beq_iff_eq.1 f76; omega), if_pos ⟨by have := beq_iff_eq.1 f76; omega, by have := beq_iff_eq.1 f78; omega⟩, if_pos f79]
       refine zk [0, 1] I fun I => ?_
       refine zo 2 I fun I => ?_
       refine zn I fun Al W I => ?_
       refine zk [3] I fun I => ?_
       exact zret I (v := fun Al => .tuple #[.agg #[.int .i64 5, .bool false, .bool false, .slice none 0 0, .int .i64 0], .bool x]) fun Al W I => b0z (by rw [hD, l0w f x (by omega), if_neg (by omega)]) rfl I.below
     refine zb I 79 (x) (false) (f79) fun Al W I => ?_
     refine zd [0] I fun Al W I => ?_
     have hD : f.dec x e X = ⟨1, 0, 0⟩ := by unfold Fm.dec; rw [if_neg (by have := beq_iff_eq.1 f76; omega), if_neg (by have := beq_iff_eq.1 f76; omega), if_pos ⟨by have := beq_iff_eq.1 f76; omega, by have := beq_iff_eq.1 f78; omega⟩, if_neg (by rw [f79]; simp)]
     refine zk [0, 1] I fun I => ?_
     refine zo 2 I fun I => ?_
     refine zn I fun Al W I => ?_
     refine zk [3] I fun I => ?_
     exact zret I (v := fun Al => .tuple #[.agg #[.int .i64 1, .bool false, .bool false, .slice none 0 0, .int .i64 0], .bool x]) fun Al W I => b0z (by rw [hD, l0w f x (by omega), if_pos (by omega), f79]) rfl I.below
   refine zb I 78 ((e : Int) == 0) (false) (f78) fun Al W I => ?_
   refine zd [0] I fun Al W I => ?_
   refine zk [0, 1, 2, 4, 5] I fun I => ?_
   refine zki 6 I .i64 (f.g.lo + (e : Int)) (f.g.lo + (e : Int)) (iwo) fun I => ?_
   refine zki 7 I .i64 ((f.g.lo + (e : Int)) - 1) ((f.g.lo + (e : Int)) - 1) (iwo) fun I => ?_
   refine zk [9] I fun I => ?_
   refine zo 3 I fun I => ?_
   have q76 : f.fam = 3 := by have := beq_iff_eq.1 f76; omega
   have q78 : e ≠ 0 := by have := bnF f78; omega
   have qx : f.ext = false := by cases hh : f.ext with | false => rfl | true => exact absurd (hextF hh).1 (by omega)
   have qF : dN = f.F := by have := hd1F (by omega) qx; omega
   refine zqr I (fun Al W I => have hzW := I.bel.size; f1p p54 p59 _ _ c54 c59 X (2 ^ dN) (X + 2 ^ dN) W I.fa.2.1.rd I.fa.1.rd rfl rfl (by omega) (by omega) rfl) fun Al W p87 c87 I => ?_
   refine zo 8 I fun I => ?_
   refine zg I (fun Al W I => have hzW := I.bel.size; c0r f x (lk 0 Al 2) (lk 0 Al 1) (X + 2 ^ dN) p87 c87 _ (f.g.lo + (e : Int) - 1) W I.fa.1 (by have := d0e (x := X + 2 ^ dN) (n := 122) (k := 8) (n0b hXlt (by omega) (by omega)) (by omega); omega) (by omega) (I.box 2 4 _) (I.box 1 53 _)) fun Al V Iv _ hB _ kz => ?_
   rintro _ W ⟨pN, cN, rfl, oN, hb⟩
   have hD : f.dec x e X = ⟨2, X + 2 ^ dN, f.g.lo + e - 1⟩ := by unfold Fm.dec; rw [if_neg (by omega), if_neg (by omega), if_neg (by omega), if_neg q78, if_pos qx, qF]
   refine ⟨_, rfl, kz _ _ hb fun I => ?_⟩
   have I := I.rf oN (hB _) Iv
   refine zo 10 I fun I => ?_
   refine zn I fun Al W I => ?_
   refine zk [11] I fun I => ?_
   exact zret I (v := fun Al => .tuple #[.agg #[.int .i64 (((f.vr x ⟨2, X + 2 ^ dN, f.g.lo + (e : Int) - 1⟩).cls : Nat) : Int), .bool ((f.vr x ⟨2, X + 2 ^ dN, f.g.lo + (e : Int) - 1⟩).neg), .bool ((f.vr x ⟨2, X + 2 ^ dN, f.g.lo + (e : Int) - 1⟩).x.neg), .slice pN (dig B16 (f.vr x ⟨2, X + 2 ^ dN, f.g.lo + (e : Int) - 1⟩).x.m).length cN, .int .i64 ((f.vr x ⟨2, X + 2 ^ dN, f.g.lo + (e : Int) - 1⟩).x.e)], .bool x]) fun Al W I => d0m (by rw [hD]) rfl I.fa.1 (by omega) I.below
 refine zb I 76 ((f.fam : Int) == 3) (false) (f76) fun Al W I => ?_
 have q1 : f.fam = 1 := by have := bnF f67; have := bnF f76; omega
 rcases Bool.eq_false_or_eq_true (n == 3) with f95 | f95
 · refine zb I 95 (n == 3) (true) (f95) fun Al W I => ?_
   have qx : f.ext = true := by rw [hext]; exact dTr (beq_iff_eq.1 f95)
   have qN : dN = 63 := by have := (hextF qx).2.2; omega
   rcases Bool.eq_false_or_eq_true (o) with f96 | f96
   · refine zb I 96 (o) (true) (f96) fun Al W I => ?_
     refine zq I (fun Al W I => have hzW := I.bel.size; m0x p54 p59 _ _ c54 c59 X (2 ^ dN) W I.fa.2.1.rd I.fa.1.rd rfl rfl (by omega) (by omega)) fun Al W I => ?_
     rcases Bool.eq_false_or_eq_true ((cmpN X (2 ^ dN)) == 0) with f100 | f100
     · refine zb I 100 ((cmpN X (2 ^ dN)) == 0) (true) (f100) fun Al W I => ?_
       refine zd [0] I fun Al W I => ?_
       have hD : f.dec x e X = ⟨3, 0, 0⟩ := by unfold Fm.dec; rw [if_neg (by omega), if_pos ⟨q1, hoE.1 f96⟩, if_pos (.inr ⟨qx, by have := q0j (beq_iff_eq.1 f100); rw [qN] at this; exact this⟩)]
       refine zk [0, 1, 2] I fun I => ?_
       refine zo 3 I fun I => ?_
       refine zn I fun Al W I => ?_
       refine zk [4] I fun I => ?_
       exact zret I (v := fun Al => .tuple #[.agg #[.int .i64 3, .bool x, .bool false, .slice none 0 0, .int .i64 0], .bool x]) fun Al W I => b0z (by rw [hD, l0w f x (by omega), if_pos (by omega)]) rfl I.below
     refine zb I 100 ((cmpN X (2 ^ dN)) == 0) (false) (f100) fun Al W I => ?_
     refine zd [0] I fun Al W I => ?_
     have hD : f.dec x e X = ⟨4, 0, 0⟩ := by unfold Fm.dec; rw [if_neg (by omega), if_pos ⟨q1, hoE.1 f96⟩, if_neg (fun h => by rcases h with h | h <;> first | (have k := h.1; rw [qx] at k; cases k; done) | (have k := bnF f100; apply k; rw [qN, h.2]; exact r0c _))]
     refine zk [0, 1] I fun I => ?_
     refine zo 2 I fun I => ?_
     refine zn I fun Al W I => ?_
     refine zk [3] I fun I => ?_
     exact zret I (v := fun Al => .tuple #[.agg #[.int .i64 4, .bool false, .bool false, .slice none 0 0, .int .i64 0], .bool x]) fun Al W I => b0z (by rw [hD, l0w f x (by omega), if_neg (by omega)]) rfl I.below
   refine zb I 96 (o) (false) (f96) fun Al W I => ?_
   have qo : ¬ (f.fam = 1 ∧ e = 2 ^ f.E - 1) := fun h => by have k := hoE.2 h.2; first | (rw [f96] at k; cases k; done)
   rcases Bool.eq_false_or_eq_true (decide ((e : Int) > 0)) with f107 | f107
   · refine zb I 107 (decide ((e : Int) > 0)) (true) (f107) fun Al W I => ?_
     refine zq I (fun Al W I => have hzW := I.bel.size; m0x p54 p59 _ _ c54 c59 X (2 ^ dN) W I.fa.2.1.rd I.fa.1.rd rfl rfl (by omega) (by omega)) fun Al W I => ?_
     rcases Bool.eq_false_or_eq_true (decide ((cmpN X (2 ^ dN)) < 0)) with f112 | f112
     · refine zb I 112 (decide ((cmpN X (2 ^ dN)) < 0)) (true) (f112) fun Al W I => ?_
       refine zd [0] I fun Al W I => ?_
       have hD : f.dec x e X = ⟨4, 0, 0⟩ := by unfold Fm.dec; rw [if_neg (by omega), if_neg qo, if_neg (by omega), if_neg (by have := oTr f107; omega), if_neg (by rw [qx]; simp), if_pos (by have k := c1d (oTr f112); rw [qN] at k; exact k)]
       refine zk [0, 1] I fun I => ?_
       refine zo 2 I fun I => ?_
       refine zn I fun Al W I => ?_
       refine zk [3] I fun I => ?_
       exact zret I (v := fun Al => .tuple #[.agg #[.int .i64 4, .bool false, .bool false, .slice none 0 0, .int .i64 0], .bool x]) fun Al W I => b0z (by rw [hD, l0w f x (by omega), if_neg (by omega)]) rfl I.below
     refine zb I 112 (decide ((cmpN X (2 ^ dN)) < 0)) (false) (f112) fun Al W I => ?_
     refine zd [0] I fun Al W I => ?_
     refine zk [0, 1, 2, 3] I fun I => ?_
     refine zki 4 I .i64 ((e : Int) - 1) ((e : Int) - 1) (iwo) fun I => ?_
     refine zkm 5 I .i64 (if (((e : Int) - 1) : Int) > 0 then ((e : Int) - 1) else 0) (((e - 1 : Nat) : Int)) ((by split <;> omega)) fun I => ?_
     refine zki 6 I .i64 (f.g.lo + ((e - 1 : Nat) : Int)) (f.g.lo + ((e - 1 : Nat) : Int)) (iwo) fun I => ?_
     refine zk [8] I fun I => ?_
     refine zo 7 I fun I => ?_
     refine zg I (fun Al W I => have hzW := I.bel.size; c0r f x (lk 0 Al 2) (lk 0 Al 1) X p54 c54 _ (f.g.lo + ((e - 1 : Nat) : Int)) W I.fa.2.1 (by omega) (by omega) (I.box 2 4 _) (I.box 1 53 _)) fun Al V Iv _ hB _ kz => ?_
     rintro _ W ⟨pN, cN, rfl, oN, hb⟩
     have hD : f.dec x e X = ⟨2, X, f.g.lo + ((e - 1 : Nat) : Int)⟩ := by unfold Fm.dec; rw [if_neg (by omega), if_neg qo, if_neg (by omega), if_neg (by have := oTr f107; omega), if_neg (by rw [qx]; simp), if_neg (by have k := s0l (oFa f112); rw [qN] at k; exact k)]; simp only [Dc.mk.injEq, true_and]; have := oTr f107; omega
     refine ⟨_, rfl, kz _ _ hb fun I => ?_⟩
     have I := I.rf oN (hB _) Iv
     refine zo 9 I fun I => ?_
     refine zn I fun Al W I => ?_
     refine zk [10] I fun I => ?_
     exact zret I (v := fun Al => .tuple #[.agg #[.int .i64 (((f.vr x ⟨2, X, f.g.lo + ((e - 1 : Nat) : Int)⟩).cls : Nat) : Int), .bool ((f.vr x ⟨2, X, f.g.lo + ((e - 1 : Nat) : Int)⟩).neg), .bool ((f.vr x ⟨2, X, f.g.lo + ((e - 1 : Nat) : Int)⟩).x.neg), .slice pN (dig B16 (f.vr x ⟨2, X, f.g.lo + ((e - 1 : Nat) : Int)⟩).x.m).length cN, .int .i64 ((f.vr x ⟨2, X, f.g.lo + ((e - 1 : Nat) : Int)⟩).x.e)], .bool x]) fun Al W I => d0m (by rw [hD]) rfl I.fa.1 (by omega) I.below
   refine zb I 107 (decide ((e : Int) > 0)) (false) (f107) fun Al W I => ?_
   refine zd [0] I fun Al W I => ?_
   refine zk [0, 1, 2, 3] I fun I => ?_
   refine zki 4 I .i64 ((e : Int) - 1) ((e : Int) - 1) (iwo) fun I => ?_
   refine zkm 5 I .i64 (if (((e : Int) - 1) : Int) > 0 then ((e : Int) - 1) else 0) (((e - 1 : Nat) : Int)) ((by split <;> omega)) fun I => ?_
   refine zki 6 I .i64 (f.g.lo + ((e - 1 : Nat) : Int)) (f.g.lo + ((e - 1 : Nat) : Int)) (iwo) fun I => ?_
   refine zk [8] I fun I => ?_
   refine zo 7 I fun I => ?_
   refine zg I (fun Al W I => have hzW := I.bel.size; c0r f x (lk 0 Al 2) (lk 0 Al 1) X p54 c54 _ (f.g.lo + ((e - 1 : Nat) : Int)) W I.fa.2.1 (by omega) (by omega) (I.box 2 4 _) (I.box 1 53 _)) fun Al V Iv _ hB _ kz => ?_
   rintro _ W ⟨pN, cN, rfl, oN, hb⟩
   have hD : f.dec x e X = ⟨2, X, f.g.lo + ((e - 1 : Nat) : Int)⟩ := by unfold Fm.dec; rw [if_neg (by omega), if_neg qo, if_neg (by omega), if_pos (by have := oFa f107; omega)]; simp only [Dc.mk.injEq, true_and]; have := oFa f107; omega
   refine ⟨_, rfl, kz _ _ hb fun I => ?_⟩
   have I := I.rf oN (hB _) Iv
   refine zo 9 I fun I => ?_
   refine zn I fun Al W I => ?_
   refine zk [10] I fun I => ?_
   exact zret I (v := fun Al => .tuple #[.agg #[.int .i64 (((f.vr x ⟨2, X, f.g.lo + ((e - 1 : Nat) : Int)⟩).cls : Nat) : Int), .bool ((f.vr x ⟨2, X, f.g.lo + ((e - 1 : Nat) : Int)⟩).neg), .bool ((f.vr x ⟨2, X, f.g.lo + ((e - 1 : Nat) : Int)⟩).x.neg), .slice pN (dig B16 (f.vr x ⟨2, X, f.g.lo + ((e - 1 : Nat) : Int)⟩).x.m).length cN, .int .i64 ((f.vr x ⟨2, X, f.g.lo + ((e - 1 : Nat) : Int)⟩).x.e)], .bool x]) fun Al W I => d0m (by rw [hD]) rfl I.fa.1 (by omega) I.below
 refine zb I 95 (n == 3) (false) (f95) fun Al W I => ?_
 have qx : f.ext = false := by rw [hext]; exact dFa (bnF f95)
 have qF : dN = f.F := by have := hd1F (by omega) qx; omega
 rcases Bool.eq_false_or_eq_true (o) with f125 | f125
 · refine zb I 125 (o) (true) (f125) fun Al W I => ?_
   rcases Bool.eq_false_or_eq_true ((((dig B16 X).length : Nat) : Int) == 0) with f128 | f128
   · refine zb I 128 ((((dig B16 X).length : Nat) : Int) == 0) (true) (f128) fun Al W I => ?_
     refine zd [0] I fun Al W I => ?_
     have hD : f.dec x e X = ⟨3, 0, 0⟩ := by unfold Fm.dec; rw [if_neg (by omega), if_pos ⟨q1, hoE.1 f125⟩, if_pos (.inl ⟨qx, hX0.1 (by have := beq_iff_eq.1 f128; omega)⟩)]
     refine zk [0, 1, 2] I fun I => ?_
     refine zo 3 I fun I => ?_
     refine zn I fun Al W I => ?_
     refine zk [4] I fun I => ?_
     exact zret I (v := fun Al => .tuple #[.agg #[.int .i64 3, .bool x, .bool false, .slice none 0 0, .int .i64 0], .bool x]) fun Al W I => b0z (by rw [hD, l0w f x (by omega), if_pos (by omega)]) rfl I.below
   refine zb I 128 ((((dig B16 X).length : Nat) : Int) == 0) (false) (f128) fun Al W I => ?_
   refine zd [0] I fun Al W I => ?_
   have hD : f.dec x e X = ⟨4, 0, 0⟩ := by unfold Fm.dec; rw [if_neg (by omega), if_pos ⟨q1, hoE.1 f125⟩, if_neg (fun h => by rcases h with h | h <;> first | (have k := h.1; rw [qx] at k; cases k; done) | (have k := bnF f128; have k2 := hX0.2 h.2; omega))]
   refine zk [0, 1] I fun I => ?_
   refine zo 2 I fun I => ?_
   refine zn I fun Al W I => ?_
   refine zk [3] I fun I => ?_
   exact zret I (v := fun Al => .tuple #[.agg #[.int .i64 4, .bool false, .bool false, .slice none 0 0, .int .i64 0], .bool x]) fun Al W I => b0z (by rw [hD, l0w f x (by omega), if_neg (by omega)]) rfl I.below
 refine zb I 125 (o) (false) (f125) fun Al W I => ?_
 have qo : ¬ (f.fam = 1 ∧ e = 2 ^ f.E - 1) := fun h => by have k := hoE.2 h.2; rw [f125] at k; cases k
 rcases Bool.eq_false_or_eq_true (decide ((e : Int) > 0)) with f135 | f135
 · refine zb I 135 (decide ((e : Int) > 0)) (true) (f135) fun Al W I => ?_
   refine zqr I (fun Al W I => have hzW := I.bel.size; f1p p54 p59 _ _ c54 c59 X (2 ^ dN) (X + 2 ^ dN) W I.fa.2.1.rd I.fa.1.rd rfl rfl (by omega) (by omega) rfl) fun Al W p138 c138 I => ?_
   refine zd [0] I fun Al W I => ?_
   refine zk [0, 1, 2, 3] I fun I => ?_
   refine zki 4 I .i64 ((e : Int) - 1) ((e : Int) - 1) (iwo) fun I => ?_
   refine zkm 5 I .i64 (if (((e : Int) - 1) : Int) > 0 then ((e : Int) - 1) else 0) (((e - 1 : Nat) : Int)) ((by split <;> omega)) fun I => ?_
   refine zki 6 I .i64 (f.g.lo + ((e - 1 : Nat) : Int)) (f.g.lo + ((e - 1 : Nat) : Int)) (iwo) fun I => ?_
   refine zk [8] I fun I => ?_
   refine zo 7 I fun I => ?_
   refine zg I (fun Al W I => have hzW := I.bel.size; c0r f x (lk 0 Al 2) (lk 0 Al 1) (X + 2 ^ dN) p138 c138 _ (f.g.lo + ((e - 1 : Nat) : Int)) W I.fa.1 (by have := d0e (x := X + 2 ^ dN) (n := 122) (k := 8) (n0b hXlt (by omega) (by omega)) (by omega); omega) (by omega) (I.box 2 4 _) (I.box 1 53 _)) fun Al V Iv _ hB _ kz => ?_
   rintro _ W ⟨pN, cN, rfl, oN, hb⟩
   have hD : f.dec x e X = ⟨2, X + 2 ^ dN, f.g.lo + ((e - 1 : Nat) : Int)⟩ := by unfold Fm.dec; rw [if_neg (by omega), if_neg qo, if_neg (by omega), if_neg (by have := oTr f135; omega), if_pos qx, qF]; simp only [Dc.mk.injEq, true_and]; have := oTr f135; omega
   refine ⟨_, rfl, kz _ _ hb fun I => ?_⟩
   have I := I.rf oN (hB _) Iv
   refine zo 9 I fun I => ?_
   refine zn I fun Al W I => ?_
   refine zk [10] I fun I => ?_
   exact zret I (v := fun Al => .tuple #[.agg #[.int .i64 (((f.vr x ⟨2, X + 2 ^ dN, f.g.lo + ((e - 1 : Nat) : Int)⟩).cls : Nat) : Int), .bool ((f.vr x ⟨2, X + 2 ^ dN, f.g.lo + ((e - 1 : Nat) : Int)⟩).neg), .bool ((f.vr x ⟨2, X + 2 ^ dN, f.g.lo + ((e - 1 : Nat) : Int)⟩).x.neg), .slice pN (dig B16 (f.vr x ⟨2, X + 2 ^ dN, f.g.lo + ((e - 1 : Nat) : Int)⟩).x.m).length cN, .int .i64 ((f.vr x ⟨2, X + 2 ^ dN, f.g.lo + ((e - 1 : Nat) : Int)⟩).x.e)], .bool x]) fun Al W I => d0m (by rw [hD]) rfl I.fa.1 (by omega) I.below
 refine zb I 135 (decide ((e : Int) > 0)) (false) (f135) fun Al W I => ?_
 refine zd [0] I fun Al W I => ?_
 refine zk [0, 1, 2, 3] I fun I => ?_
 refine zki 4 I .i64 ((e : Int) - 1) ((e : Int) - 1) (iwo) fun I => ?_
 refine zkm 5 I .i64 (if (((e : Int) - 1) : Int) > 0 then ((e : Int) - 1) else 0) (((e - 1 : Nat) : Int)) ((by split <;> omega)) fun I => ?_
 refine zki 6 I .i64 (f.g.lo + ((e - 1 : Nat) : Int)) (f.g.lo + ((e - 1 : Nat) : Int)) (iwo) fun I => ?_
 refine zk [8] I fun I => ?_
 refine zo 7 I fun I => ?_
 refine zg I (fun Al W I => have hzW := I.bel.size; c0r f x (lk 0 Al 2) (lk 0 Al 1) X p54 c54 _ (f.g.lo + ((e - 1 : Nat) : Int)) W I.fa.2.1 (by omega) (by omega) (I.box 2 4 _) (I.box 1 53 _)) fun Al V Iv _ hB _ kz => ?_
 rintro _ W ⟨pN, cN, rfl, oN, hb⟩
 have hD : f.dec x e X = ⟨2, X, f.g.lo + ((e - 1 : Nat) : Int)⟩ := by unfold Fm.dec; rw [if_neg (by omega), if_neg qo, if_neg (by omega), if_pos (by have := oFa f135; omega)]; simp only [Dc.mk.injEq, true_and]; have := oFa f135; omega
 refine ⟨_, rfl, kz _ _ hb fun I => ?_⟩
 have I := I.rf oN (hB _) Iv
 refine zo 9 I fun I => ?_
 refine zn I fun Al W I => ?_
 refine zk [10] I fun I => ?_
 exact zret I (v := fun Al => .tuple #[.agg #[.int .i64 (((f.vr x ⟨2, X, f.g.lo + ((e - 1 : Nat) : Int)⟩).cls : Nat) : Int), .bool ((f.vr x ⟨2, X, f.g.lo + ((e - 1 : Nat) : Int)⟩).neg), .bool ((f.vr x ⟨2, X, f.g.lo + ((e - 1 : Nat) : Int)⟩).x.neg), .slice pN (dig B16 (f.vr x ⟨2, X, f.g.lo + ((e - 1 : Nat) : Int)⟩).x.m).length cN, .int .i64 ((f.vr x ⟨2, X, f.g.lo + ((e - 1 : Nat) : Int)⟩).x.e)], .bool x]) fun Al W I => d0m (by rw [hD]) rfl I.fa.1 (by omega) I.below
end Go.Proofs.YtmacohmclpnphaaDoor
namespace Go.Slip
theorem o0t {xs : List Nat} (h : ∀ x ∈ xs, x < 256) : a0x (b0p xs) = xs := by
 unfold a0x b0p
 simp only [List.map_map]
 rw [show (xs.map (UInt8.toNat ∘ UInt8.ofNat)) = xs.map id from List.map_congr_left fun x hx => by
  have := h x hx
  simp only [Function.comp, id]
  rw [UInt8.toNat_ofNat']
  omega]
 simp
end Go.Slip
namespace Go.Proofs.YtmacohmclpnphaaDoor
open Go.RowKit Go.Slip
def s0m (n cls : Int) (a : Din) : Int := if IsFm n then a0k (fmt n) cls a else 6
theorem v0k (n : Int) (cls : Int) (a : Din) (w : World) (ha : InD w a) (hT : TabW w) :
 Calls Tryd.prog 26 #[.int .i64 n, .agg #[.int .i64 cls, .bool a.g, .slice a.p a.xs.length a.c, .int .i64 a.e]] w (q0l w (s0m n cls a) (n0a (fmt n) cls a)) := by
 unfold s0m
 by_cases hn : IsFm n
 · rw [if_pos hn]; exact z0k n cls a w hn ha hT
 · rw [if_neg hn]
   have HF := fun W => hi0 (i0n n hn W)
   generalize n0a (fmt n) cls a = s
   have hT79 : e0o Tryd.prog 79 12 := c0n (by kernel_rfl) (by kernel_rfl)
   refine calls_of_wp Tryd.func26 rfl ?_
   refine b0a (a' := ⟨((.int .i64 n) :: (.agg #[.int .i64 cls, .bool a.g, .slice a.p a.xs.length a.c, .int .i64 a.e]) :: us 145 []).toArray, []⟩) (by kernel_rfl) ?_
   refine ye ?_
   refine yw 0 rfl 3 #[.int .i64 cls, .bool a.g, .slice a.p a.xs.length a.c, .int .i64 a.e] 29 (fun V1 hbV1 hzV1 b3 => ?_)
   refine yzt 2 ?_
   refine ye ?_
   refine yc 1 rfl 13 ((HF V1).out) (fun Gx hGx => ?_)
   rintro eV2 V2 ⟨rfl, hbV2⟩
   have hzV2 := hbV2.size
   refine ⟨_, rfl, hGx _ _ ?_⟩
   clear hGx Gx
   refine yw 3 rfl 6 #[.int .i64 0, .int .i64 0, .int .i64 0, .int .i64 0, .int .i64 0, .int .i64 0, .int .i64 0, .bool false, .bool false, .bool false, .bool false, .nilFunc] 79 (fun V3 hbV3 hzV3 b6 => ?_)
   have boV4 := b6
   refine ysw 0 rfl b6 hT79 #[.int .i64 0, .int .i64 0, .int .i64 0, .int .i64 0, .int .i64 0, .int .i64 0, .int .i64 0, .bool false, .bool false, .bool false, .bool false, .nilFunc] ?_
   clear b6
   intro V4 hOV4 b6
   have hzV4 := hOV4.size
   refine yzt 1 ?_
   refine wp_seq ?_
   refine yq ?_
   refine yT ?_
   refine yq ?_
   refine wp_ret ?_
   repeat (first | with_reducible refine a0u ?_ | with_reducible refine a0p ?_)
   refine yret (.tuple #[Go.Value.string (ByteArray.mk #[]), .int .i64 6]) (res2 Tryd.results26 rvt rvt) ?_
   exact a0l (r := 6) rfl (by decide) rfl ((a0c (a0c hbV1 hbV2) hbV3).trans (hOV4.below (by omega)))
end Go.Proofs.YtmacohmclpnphaaDoor
namespace Go.Slip
open Go.RowKit
theorem RdV.grown {w w' : World} {p : Option Addr} {vs : List Value} {row : Option Nat} (h : RdV w p vs) (hg : w.grownBy w' row) (hne : 0 < vs.length → some (blk p) ≠ row) : RdV w' p vs :=
 h.same fun h0 => hg.block _ (h.lt h0) (hne h0)
theorem Rf.grown {w w' : World} {base : Nat} {p : Option Addr} {c : Nat} {xs : List Nat} {row : Option Nat} (h : Rf w base p c xs) (hg : w.grownBy w' row) (hne : 0 < xs.length → some (blk p) ≠ row) : Rf w' base p c xs :=
 ⟨h.rd.same fun h0 => hg.block _ (h.rd.lt h0) (hne h0), h.cap, h.at_⟩
section
variable {P : Program} {ops : Array Oper} {Q : Exit → Act → World → Prop} {a : Act} {w : World} {rest : List Oper} {o : Oper} {K : Act → World → Prop}
end
end Go.Slip
namespace Go.Proofs.YtmacohmclpnphaaDoor
open Go.RowKit Go.Slip
theorem v0l (f : Fm) {k : Nat} (h : k ≠ 2) (g : Bool) (d d' : Dv) : f.encP k g d = f.encP k g d' := by
 unfold Fm.encP
 rw [if_neg h, if_neg h]
theorem s0n {f : Fm} (G : c0g f) {neg : Bool} {e x : Nat} (he : e < 2 ^ f.E) (hx : x < 2 ^ f.F) : a0s f (b0p (f.str neg e x)) = f.pat neg e x := by
 have ho : f.ord = 1 → f.size % 2 = 0 := fun _ => by have := G.sz; omega
 unfold a0s
 rw [o0t (by unfold Fm.str; exact g0w (by rw [d0d]; exact ho) (p0y _ _)), h1i G he hx]
theorem o0u {r : Nat} (h : (dig B32 r).length ≤ 1200) : b0n (dig B32 r) = 0 := by rw [Go.Slip.u0h, if_neg (by omega)]
structure Is (a : Din) (v : Vl) : Prop where
 g : a.g = v.neg
 xs : a.xs = dig B32 v.d
 e : a.e = v.pow
theorem Is.num {a : Din} {v : Vl} (h : Is a v) (f : Fm) : numD f a = bare ⟨v.neg, v.d, wid f.g * v.pow⟩ := by
 unfold numD
 rw [h.g, h.xs, h.e, a0v a0a]
def dinV (v : Vl) (p : Option Addr) (c : Nat) : Din := ⟨v.neg, p, c, dig B32 v.d, v.pow⟩
theorem f1q {v : Vl} {p : Option Addr} {c base : Nat} {w : World} (h : Own w base .u32 76 p c (dig B32 v.d)) (hl : (dig B32 v.d).length ≤ 1000) : InD w (dinV v p c) :=
 ⟨h.rd, h.le_cap, by show (dig B32 v.d).length ≤ _; omega, b0g a0a _⟩
end Go.Proofs.YtmacohmclpnphaaDoor
namespace Go.Slip
theorem u0c (g : Bool) (x : Int) : bare ⟨g, 0, x⟩ = ⟨false, 0, 0⟩ := by unfold bare; simp
def rv (neg : Bool) (num den : Nat) (e : Int) (g : Gd) (way : Int) : Dv := bare ⟨(a0r neg num den e g way).neg, (a0r neg num den e g way).d, wid g * (a0r neg num den e g way).pow⟩
theorem z0n (neg : Bool) (den : Nat) (e : Int) (g : Gd) (way : Int) : rv neg 0 den e g way = ⟨false, 0, 0⟩ := by
 unfold rv a0r
 rw [if_pos rfl]
 exact u0c _ _
def okP (p : Pl) (g : Gd) : Bool := !p.over && (!p.under || g.grad)
theorem j1c {neg : Bool} {num den : Nat} {e : Int} {g : Gd} {way : Int} (hd : 0 < den) (G : g0k g) (hok : okP (a0r neg num den e g way) g = true) : a0h (rv neg num den e g way) g = true := by
 by_cases h0 : num = 0
 · subst h0; rw [z0n]; rfl
 · have hK := o0e (num := num) (by omega) hd e (w := wid g) (D := g.digs.toNat) (b0d g).1 (by have := G.d1; omega)
   have hD : 1 ≤ g.digs.toNat := by have := G.d1; omega
   unfold rv a0r at *
   rw [if_neg h0] at *
   generalize theK num den e (wid g) g.digs.toNat = K at *
   have hq := q_lt hd hD (y0g hd hK (y0f g K))
   have hover : powP neg num den e (wid g) g.digs.toNat way (powK g K) ≤ g.hi := by
    unfold okP at hok
    have : (fitK neg num den e g way K).over = decide (g.hi < powP neg num den e (wid g) g.digs.toNat way (powK g K)) := rfl
    rw [this] at hok
    simp only [Bool.and_eq_true, Bool.not_eq_true', decide_eq_false_iff_not] at hok
    omega
   have hunder : g.lo ≤ K ∨ g.grad = true := by
    unfold okP at hok
    have : (fitK neg num den e g way K).under = decide (K < g.lo) := rfl
    rw [this] at hok
    simp only [Bool.and_eq_true, Bool.or_eq_true, Bool.not_eq_true', decide_eq_false_iff_not] at hok
    rcases hok.2 with h | h
    · left; omega
    · right; exact h
   show a0h (bare ⟨neg, digP neg num den e (wid g) g.digs.toNat way (powK g K), wid g * (if digP neg num den e (wid g) g.digs.toNat way (powK g K) = 0 then 0 else powP neg num den e (wid g) g.digs.toNat way (powK g K))⟩) g = true
   by_cases hd0 : digP neg num den e (wid g) g.digs.toNat way (powK g K) = 0
   · rw [hd0, u0c]; rfl
   · rw [if_neg hd0, ← j0f]
     have hDD : g.digs = (g.digs.toNat : Int) := by have := G.d1; omega
     have habs : (sg neg (digP neg num den e (wid g) g.digs.toNat way (powK g K))).natAbs = digP neg num den e (wid g) g.digs.toNat way (powK g K) := by unfold sg; cases neg <;> simp
     have hlow : g.lo ≤ powK g K ∧ (2 ^ (wid g * (g.digs.toNat - 1)) ≤ qP num den (e - wid g * powK g K) ∨ (g.grad = true ∧ powK g K = g.lo)) := by
      by_cases hu : K < g.lo
      · have hg : g.grad = true := by rcases hunder with h | h; omega; exact h
        have : powK g K = g.lo := by unfold powK; rw [if_pos ⟨hu, hg⟩]
        exact ⟨by omega, .inr ⟨hg, this⟩⟩
      · have : powK g K = K := by unfold powK; rw [if_neg (fun h => hu h.1)]
        rw [this]
        exact ⟨by omega, .inl hK.yes⟩
     have hww : wid g * (g.digs.toNat - 1) < wid g * g.digs.toNat := Nat.mul_lt_mul_of_pos_left (by omega) (b0d g).1
     refine h0r G hDD ?_ ?_ ?_ hover
     · rw [habs]
       unfold digP
       by_cases hl : i0k neg num den e (wid g) g.digs.toNat way (powK g K)
       · rw [if_pos hl]; exact Nat.pow_lt_pow_right (by omega) hww
       · rw [if_neg hl]
         unfold i0k at hl
         by_cases hu : upP neg num den e (wid g) way (powK g K) = true
         · exact (b0f _ _).1 (by have : ¬ wid g * g.digs.toNat < blen (dUp neg num den e (wid g) way (powK g K)) := fun h => hl ⟨hu, h⟩; omega)
         · have : upP neg num den e (wid g) way (powK g K) = false := by simpa using hu
           unfold dUp; rw [this]; simpa using hq
     · rw [habs]
       unfold digP powP
       by_cases hl : i0k neg num den e (wid g) g.digs.toNat way (powK g K)
       · rw [if_pos hl, if_pos hl]; exact .inr (.inl (Nat.le_refl _))
       · rw [if_neg hl, if_neg hl]
         rcases hlow.2 with h | h
         · exact .inr (.inl (by unfold dUp; omega))
         · exact .inr (.inr h)
     · unfold powP; split <;> omega
theorem c1f {w D : Nat} (hD : 1 ≤ D) : w * D = w * (D - 1) + w := by
 obtain ⟨c, rfl⟩ : ∃ c, D = c + 1 := ⟨D - 1, by omega⟩
 simp only [Nat.add_sub_cancel]; grind
theorem c1g {g : Gd} (G : g0k g) {z : Int} {k : Int} (hz : z ≠ 0) (hlt : z.natAbs < 2 ^ (wid g * g.digs.toNat)) (hk : g.lo ≤ k) (hfull : 2 ^ (wid g * (g.digs.toNat - 1)) ≤ z.natAbs ∨ k = g.lo) : stepK (norm z (wid g * k)) g = k := by
 have wp := b0d g
 have hD : 1 ≤ g.digs.toNat := by have := G.d1; omega
 have ht := t0r hz (wid g * k)
 have hb1 : blen z.natAbs ≤ wid g * g.digs.toNat := (b0f _ _).2 hlt
 have hb0 := (c0l z.natAbs).2 (by omega)
 unfold stepK upK
 rw [ht]
 generalize g.digs.toNat = D at *
 have hb := e0d ((wid g : Int) * k + (blen z.natAbs : Nat) - 1) (wid g) (by omega)
 generalize ((wid g : Int) * k + (blen z.natAbs : Nat) - 1) / (wid g : Int) = f at *
 have e1 := c1f (w := wid g) hD
 have e3 : ((wid g * (D - 1) : Nat) : Int) = wid g * D - wid g := by
  have : ((wid g * D : Nat) : Int) = (wid g * (D - 1) : Nat) + (wid g : Nat) := by rw [e1]; simp
  rw [Int.natCast_mul] at this
  omega
 have e4 : ((wid g * D : Nat) : Int) = wid g * D := Int.natCast_mul _ _
 have eK : ∀ j : Int, (wid g : Int) * (j - D + 1) = wid g * j - wid g * D + wid g := fun j => by grind
 have w0 : (0 : Int) ≤ wid g := by omega
 have step : ∀ j l : Int, wid g * j < (wid g : Int) * l + wid g → j ≤ l := fun j l h => by
  rcases Int.lt_or_le l j with h1 | h1
  · have h2 : (wid g : Int) * (l + 1) ≤ wid g * j := Int.mul_le_mul_of_nonneg_left (by omega) w0
    rw [Int.mul_add] at h2
    omega
  · exact h1
 have hupper : f - D + 1 ≤ k := step _ _ (by rw [eK]; omega)
 rcases hfull with h | h
 · have h3 : wid g * (D - 1) < blen z.natAbs := by
    rcases Nat.lt_or_ge (wid g * (D - 1)) (blen z.natAbs) with h' | h'
    · exact h'
    · have := (b0f _ _).1 h'; omega
   have hlower : k ≤ f - D + 1 := step _ _ (by rw [eK]; omega)
   omega
 · omega
theorem o0v (z : Int) (e : Int) : zOf (norm z e) e = z := by
 have := t0c z (Int.le_refl e)
 simpa using this
theorem z0o {neg : Bool} {num den : Nat} {e : Int} {g : Gd} {way : Int} (hd : 0 < den) (G : g0k g) : (dig B32 (a0r neg num den e g way).d).length ≤ 16 := by
 unfold a0r
 by_cases h0 : num = 0
 · rw [if_pos h0]; simp [a0b]
 · rw [if_neg h0]
   have hK := o0e (num := num) (by omega) hd e (w := wid g) (D := g.digs.toNat) (b0d g).1 (by have := G.d1; omega)
   have h1 := t0s (neg := neg) (way := way) hd G hK
   have h2 : wid g * g.digs.toNat ≤ 480 := by
    have := Nat.mul_le_mul (b0d g).2 (show g.digs.toNat ≤ 120 by have := G.d2; omega)
    omega
   exact Nat.le_trans (a0n a0a (Nat.le_of_lt h1)) (e0g h2)
theorem i1c {neg : Bool} {num den : Nat} {e : Int} {g : Gd} {way : Int} (_ : 0 < den) (G : g0k g) (hok : okP (a0r neg num den e g way) g = true) : -17000 ≤ (a0r neg num den e g way).pow ∧ (a0r neg num den e g way).pow ≤ 17000 := by
 unfold a0r at *
 by_cases h0 : num = 0
 · rw [if_pos h0]; simp
 · rw [if_neg h0] at *
   generalize theK num den e (wid g) g.digs.toNat = K at *
   have hover : powP neg num den e (wid g) g.digs.toNat way (powK g K) ≤ g.hi := by
    unfold okP at hok
    have : (fitK neg num den e g way K).over = decide (g.hi < powP neg num den e (wid g) g.digs.toNat way (powK g K)) := rfl
    rw [this] at hok
    simp only [Bool.and_eq_true, Bool.not_eq_true', decide_eq_false_iff_not] at hok
    omega
   have hlow : g.lo ≤ powK g K := by
    unfold okP at hok
    have : (fitK neg num den e g way K).under = decide (K < g.lo) := rfl
    rw [this] at hok
    simp only [Bool.and_eq_true, Bool.or_eq_true, Bool.not_eq_true', decide_eq_false_iff_not] at hok
    unfold powK
    rcases hok.2 with h | h
    · rw [if_neg (fun k => h k.1)]; omega
    · by_cases hu : K < g.lo
      · rw [if_pos ⟨hu, h⟩]; omega
      · rw [if_neg (fun k => hu k.1)]; omega
   have h1 := G.l1
   have h2 := G.h2
   have hp : (fitK neg num den e g way K).pow = if digP neg num den e (wid g) g.digs.toNat way (powK g K) = 0 then 0 else powP neg num den e (wid g) g.digs.toNat way (powK g K) := rfl
   rw [hp]
   have h3 : powK g K ≤ powP neg num den e (wid g) g.digs.toNat way (powK g K) := by unfold powP; split <;> omega
   split
   · omega
   · omega
end Go.Slip
namespace Go.Proofs.YtmacohmclpnphaaDoor
open Go.RowKit Go.Slip
structure ResF (f : Fm) (r : Vr) : Prop where
 c : 1 ≤ r.cls ∧ r.cls ≤ 5
 c1 : r.cls = 1 → r.neg = true → f.fam ≠ 3
 c2 : r.cls = 2 → a0h r.x f.g = true ∧ Bare r.x ∧ r.x.m ≠ 0 ∧ r.x.neg = r.neg
 c3 : r.cls = 3 → f.fam = 1
 c4 : r.cls = 4 → f.fam = 1 ∧ r.neg = false
 c5 : r.cls = 5 → f.fam = 3 ∧ r.neg = false
 x0 : r.cls ≠ 2 → r.x = vz
structure VRep (f : Fm) (v : Vl) (r : Vr) : Prop where
 cls : v.cls = r.cls
 neg : v.neg = r.neg
 num : r.cls = 2 → bare ⟨v.neg, v.d, wid f.g * v.pow⟩ = r.x
 oth : r.cls ≠ 2 → v.d = 0 ∧ v.pow = 0
 len : (dig B32 v.d).length ≤ 1000
 lo : -20000 ≤ v.pow
 hi : v.pow ≤ 20000
theorem i1d {f : Fm} {v : Vl} {r : Vr} (R : ResF f r) (V : VRep f v r) (p : Option Addr) (c : Nat) :
 a0k f (v.cls : Int) (dinV v p c) = 0 ∧ n0a f (v.cls : Int) (dinV v p c) = b0p (f.strP (f.encP r.cls r.neg r.x)) := by
 have hinf : f.inf = false ↔ f.fam ≠ 1 := by unfold Fm.inf; simp
 have hres : f.res = false ↔ f.fam ≠ 3 := by unfold Fm.res; simp
 have hres1 : f.res = true ↔ f.fam = 3 := by unfold Fm.res; simp
 have hc := R.c
 have hcl := V.cls
 have hlo := V.lo
 have hhi := V.hi
 have hE : b0n (dinV v p c).xs = 0 := o0u (by have := V.len; omega)
 have hN : r.cls = 2 → numD f (dinV v p c) = r.x := fun h => by
  rw [← V.num h]
  unfold numD dinV
  simp only [a0v a0a]
 refine ⟨?_, ?_⟩
 · unfold a0k
   rw [if_neg (by omega), if_neg (by omega), if_neg]
   · by_cases h2 : r.cls = 2
     · obtain ⟨i1, i2, i3, i4⟩ := R.c2 h2
       rw [if_pos (by omega), if_neg (by show ¬ (v.pow < _ ∨ _ < v.pow); omega), hN h2, i1, if_neg]
       rintro (h | h)
       · have h0 : v.d = 0 := (a0g a0a _).1 h
         have := V.num h2
         rw [h0] at this
         exact i3 (by rw [← this]; rfl)
       · cases h
     · obtain ⟨o1, o2⟩ := V.oth h2
       rw [if_neg (by omega), if_neg]
       rintro (h | h | ⟨h, k⟩)
       · have : (dig B32 v.d).length = 0 := by rw [o1, a0b]; rfl
         have h : 0 < (dig B32 v.d).length := h
         omega
       · exact h o2
       · have hg : r.neg = true := by rw [← V.neg]; exact h
         have k4 := R.c4
         have k5 := R.c5
         rw [hg] at k4 k5
         rcases k with k | k
         · rcases (show r.cls = 4 ∨ r.cls = 5 by omega) with q | q
           · exact absurd (k4 q).2 (by decide)
           · exact absurd (k5 q).2 (by decide)
         · rcases (show r.cls = 1 ∨ r.cls = 3 ∨ r.cls = 4 ∨ r.cls = 5 by omega) with q | q | q | q
           · exact R.c1 q hg (hres1.1 k)
           · have := R.c3 q; have := hres1.1 k; omega
           · exact absurd (k4 q).2 (by decide)
           · exact absurd (k5 q).2 (by decide)
   · rintro (⟨h | h, k⟩ | ⟨h, k⟩)
     · exact hinf.1 k (R.c3 (by omega))
     · exact hinf.1 k (R.c4 (by omega)).1
     · exact hres.1 k (R.c5 (by omega)).1
 · unfold n0a
   rw [show ((v.cls : Int)).toNat = r.cls by omega, show (dinV v p c).g = r.neg from V.neg]
   by_cases h2 : r.cls = 2
   · rw [hN h2]
   · rw [v0l f h2 r.neg _ r.x]
theorem i1e {neg : Bool} {num den : Nat} {e : Int} {g : Gd} {way : Int} (hd : 0 < den) (G : g0k g) (ho : (a0r neg num den e g way).over = false)
 (hu : (a0r neg num den e g way).under = true → g.grad = false → g.lo ≤ (a0r neg num den e g way).pow ∧ (a0r neg num den e g way).d ≠ 0) :
 a0h (rv neg num den e g way) g = true := by
 by_cases hok : okP (a0r neg num den e g way) g = true
 · exact j1c hd G hok
 · unfold okP at hok
   rw [ho] at hok
   simp only [Bool.not_false, Bool.true_and, Bool.or_eq_true, Bool.not_eq_true', not_or, Bool.not_eq_false, Bool.not_eq_true] at hok
   obtain ⟨h1, h2⟩ := hok
   obtain ⟨h3, h4⟩ := hu h1 h2
   by_cases h0 : num = 0
   · subst h0; rw [z0n]; rfl
   · unfold rv
     unfold a0r at *
     rw [if_neg h0] at *
     generalize theK num den e (wid g) g.digs.toNat = K at *
     have hk : K < g.lo := oTr h1
     have hp : powK g K = K := by unfold powK; rw [if_neg (fun h => by rw [h2] at h; cases h.2)]
     have e1 : (fitK neg num den e g way K).pow = if digP neg num den e (wid g) g.digs.toNat way (powK g K) = 0 then 0 else powP neg num den e (wid g) g.digs.toNat way (powK g K) := rfl
     have e2 : (fitK neg num den e g way K).d = digP neg num den e (wid g) g.digs.toNat way (powK g K) := rfl
     have e3 : (fitK neg num den e g way K).neg = neg := rfl
     rw [e2] at h4
     rw [e1, if_neg h4] at h3
     rw [e1, e2, e3, if_neg h4]
     rw [hp] at h3 h4 ⊢
     have hl : i0k neg num den e (wid g) g.digs.toNat way K := by
      by_cases h : i0k neg num den e (wid g) g.digs.toNat way K
      · exact h
      · unfold powP at h3; rw [if_neg h] at h3; omega
     unfold digP powP at *
     rw [if_pos hl] at h3
     rw [if_pos hl, if_pos hl]
     have hd1 := G.d1
     have hgl := G.le
     have hww : wid g * (g.digs.toNat - 1) < wid g * g.digs.toNat := Nat.mul_lt_mul_of_pos_left (by omega) (b0d g).1
     have habs : (sg neg (2 ^ (wid g * (g.digs.toNat - 1)))).natAbs = 2 ^ (wid g * (g.digs.toNat - 1)) := by unfold sg; cases neg <;> simp [Int.natAbs_pow]
     rw [← j0f]
     refine h0r G (show g.digs = (g.digs.toNat : Int) by omega) ?_ ?_ h3 (by omega)
     · rw [habs]; exact Nat.pow_lt_pow_right (by omega) hww
     · rw [habs]; exact .inr (.inl (Nat.le_refl _))
theorem o0w {g : Bool} {m : Nat} {e : Int} (h : m ≠ 0) : (bare ⟨g, m, e⟩).neg = g ∧ (bare ⟨g, m, e⟩).m ≠ 0 := by
 unfold bare
 rw [if_neg h]
 refine ⟨rfl, fun h2 => ?_⟩
 have := (c0j m (by omega)).2
 simp only at h2
 rw [h2] at this
 simp at this
/-! ### What comes -/
theorem s0o {f : Fm} (G : c0g f) (g : Bool) : ResF f (f.zeroM g) := by
 have := G.fam
 refine ⟨by show 1 ≤ 1 ∧ 1 ≤ 5; omega, fun _ h h3 => ?_, fun h => (by cases h), fun h => (by cases h), fun h => (by cases h), fun h => (by cases h), fun _ => rfl⟩
 have h : (g && decide (f.fam = 1)) = true := h
 simp [h3] at h
theorem v0m {f : Fm} (G : c0g f) : ResF f f.nothM := by
 have hf := G.fam
 unfold Fm.nothM
 rcases hf with h | h | h <;> rw [h] <;> refine ⟨?_, ?_, ?_, ?_, ?_, ?_, fun _ => rfl⟩ <;> simp [h]
theorem i1f {f : Fm} (h : f.fam = 1) (g : Bool) : ResF f (infM g) :=
 ⟨by show 1 ≤ 3 ∧ 3 ≤ 5; omega, fun h => (by cases h), fun h => (by cases h), fun _ => h, fun h => (by cases h), fun h => (by cases h), fun _ => rfl⟩
theorem c1h {f : Fm} (G : c0g f) (g : Bool) : 2 ^ (wid f.g * f.g.digs.toNat) - 1 ≠ 0 ∧ a0h (f.greatM g).x f.g = true := by
 have GG := b0h G.g
 have hd1 := GG.d1
 have hgl := GG.le
 have wp := b0d f.g
 have hww : wid f.g * (f.g.digs.toNat - 1) < wid f.g * f.g.digs.toNat := Nat.mul_lt_mul_of_pos_left (by omega) wp.1
 have h1 : 2 ^ (wid f.g * (f.g.digs.toNat - 1)) < 2 ^ (wid f.g * f.g.digs.toNat) := Nat.pow_lt_pow_right (by omega) hww
 have h2 : 0 < 2 ^ (wid f.g * (f.g.digs.toNat - 1)) := Nat.pow_pos (by omega)
 refine ⟨by omega, ?_⟩
 show a0h (bare ⟨g, 2 ^ (wid f.g * f.g.digs.toNat) - 1, wid f.g * f.g.hi⟩) f.g = true
 have habs : (sg g (2 ^ (wid f.g * f.g.digs.toNat) - 1)).natAbs = 2 ^ (wid f.g * f.g.digs.toNat) - 1 := by unfold sg; cases g <;> simp only [if_true, Bool.false_eq_true, if_false, Int.natAbs_neg, Int.natAbs_natCast]
 rw [← j0f]
 refine h0r GG (show f.g.digs = (f.g.digs.toNat : Int) by omega) ?_ ?_ hgl (Int.le_refl _)
 · rw [habs]; omega
 · rw [habs]; exact .inr (.inl (by omega))
theorem u0d {f : Fm} (G : c0g f) (g : Bool) : ResF f (f.greatM g) := by
 obtain ⟨h1, h2⟩ := c1h G g
 exact ⟨by show 1 ≤ 2 ∧ 2 ≤ 5; omega, fun h => (by cases h), fun _ => ⟨h2, d0f _, (o0w h1).2, (o0w h1).1⟩, fun h => (by cases h), fun h => (by cases h), fun h => (by cases h), fun h => absurd rfl h⟩
theorem q0p {f : Fm} (G : c0g f) (g : Bool) : VRep f ⟨2, g, 2 ^ (wid f.g * f.g.digs.toNat) - 1, f.g.hi⟩ (f.greatM g) := by
 have GG := b0h G.g
 have h1 := GG.h1
 have h2 := GG.h2
 have hd2 := GG.d2
 have wp := b0d f.g
 have hm : wid f.g * f.g.digs.toNat ≤ 4 * 120 := Nat.mul_le_mul wp.2 (by omega)
 refine ⟨rfl, rfl, fun _ => rfl, fun h => absurd rfl h, ?_, by show _ ≤ f.g.hi; omega, by show f.g.hi ≤ _; omega⟩
 exact Nat.le_trans (a0n a0a (Nat.sub_le _ _)) (Nat.le_trans (e0g hm) (by omega))
theorem f0p {f : Fm} {k : Nat} {g : Bool} {x : Dv} (h : k ≠ 2) : VRep f ⟨k, g, 0, 0⟩ ⟨k, g, x⟩ :=
 ⟨rfl, rfl, fun e => absurd e h, fun _ => ⟨rfl, rfl⟩, by show (dig B32 0).length ≤ _; rw [a0b]; decide, by show (-20000 : Int) ≤ 0; decide, by show (0 : Int) ≤ 20000; decide⟩
def _root_.Go.Slip.Fm.placedV (f : Fm) (p : Pl) (way : Int) : Vl :=
 if p.over then (if f.fam = 2 then ⟨2, p.neg, 2 ^ (wid f.g * f.g.digs.toNat) - 1, f.g.hi⟩ else if f.fam = 3 then ⟨f.nothM.cls, false, 0, 0⟩ else if way ≤ 2 ∨ (way = 4 ∧ p.neg = false) ∨ (way = 5 ∧ p.neg = true) then ⟨3, p.neg, 0, 0⟩ else ⟨2, p.neg, 2 ^ (wid f.g * f.g.digs.toNat) - 1, f.g.hi⟩)
 else if p.under = true ∧ f.fam ≠ 1 ∧ p.pow < f.g.lo then ⟨1, false, 0, 0⟩
 else if p.d = 0 then ⟨1, p.neg && decide (f.fam = 1), 0, 0⟩
 else ⟨2, p.neg, p.d, p.pow⟩
theorem z0p {f : Fm} (_G : c0g f) : f.nothM.cls ≠ 2 := by unfold Fm.nothM; simp only; split <;> (try split) <;> omega
theorem n0c {f : Fm} (G : c0g f) {neg : Bool} {num den : Nat} {e way : Int} (hd : 0 < den) :
 ResF f (f.placedM (a0r neg num den e f.g way) way).1 ∧ VRep f (f.placedV (a0r neg num den e f.g way) way) (f.placedM (a0r neg num den e f.g way) way).1 := by
 have GG := b0h G.g
 have hin := fun h1 h2 => i1e (neg := neg) (num := num) (e := e) (way := way) hd GG h1 h2
 have hlen := z0o (neg := neg) (num := num) (e := e) (way := way) hd GG
 have hpw := fun h => i1c (neg := neg) (num := num) (e := e) (way := way) hd GG h
 have hpw2 : (a0r neg num den e f.g way).over = false → (a0r neg num den e f.g way).pow ≤ 17000 := by
  intro h
  have hh := GG.h2
  unfold a0r at *
  by_cases h0 : num = 0
  · rw [if_pos h0]; simp
  · rw [if_neg h0] at *
    generalize theK num den e (wid f.g) f.g.digs.toNat = K at *
    have h1 : powP neg num den e (wid f.g) f.g.digs.toNat way (powK f.g K) ≤ f.g.hi := by
     have h : decide (f.g.hi < powP neg num den e (wid f.g) f.g.digs.toNat way (powK f.g K)) = false := h
     have := oFa h
     omega
    show (if digP neg num den e (wid f.g) f.g.digs.toNat way (powK f.g K) = 0 then 0 else powP neg num den e (wid f.g) f.g.digs.toNat way (powK f.g K)) ≤ 17000
    split <;> omega
 unfold rv at hin
 have hgr := G.grad
 have l1 := GG.l1
 generalize a0r neg num den e f.g way = p at *
 unfold Fm.placedM Fm.placedV
 cases ho : p.over with
 | true =>
  simp only [if_true]
  by_cases h2 : f.fam = 2
  · rw [if_pos h2, if_pos h2]; exact ⟨u0d G _, q0p G _⟩
  · rw [if_neg h2, if_neg h2]
    by_cases h3 : f.fam = 3
    · rw [if_pos h3, if_pos h3]; exact ⟨v0m G, f0p (z0p G)⟩
    · have hf : f.fam = 1 := by have := G.fam; omega
      rw [if_neg h3, if_neg h3]
      split
      · exact ⟨i1f hf _, f0p (by decide)⟩
      · exact ⟨u0d G _, q0p G _⟩
 | false =>
  simp only [Bool.false_eq_true, if_false]
  by_cases hz : p.under = true ∧ f.fam ≠ 1 ∧ p.pow < f.g.lo
  · rw [if_pos hz, if_pos hz]
    exact ⟨s0o G _, f0p (by decide)⟩
  · rw [if_neg hz, if_neg hz]
    by_cases hd0 : p.d = 0
    · rw [if_pos hd0, if_pos hd0]
      exact ⟨s0o G _, f0p (by decide)⟩
    · rw [if_neg hd0, if_neg hd0]
      have hu : p.under = true → f.g.grad = false → f.g.lo ≤ p.pow ∧ p.d ≠ 0 := fun h1 h2 => by
       rw [hgr] at h2
       have := oFa h2
       refine ⟨?_, hd0⟩
       rcases Int.lt_or_le p.pow f.g.lo with h | h
       · exact absurd ⟨h1, this, h⟩ hz
       · exact h
      obtain ⟨b1, b2⟩ := o0w (g := p.neg) (e := wid f.g * p.pow) hd0
      have hlo : -17000 ≤ p.pow := by
       by_cases hok : okP p f.g = true
       · exact (hpw hok).1
       · unfold okP at hok
         rw [ho] at hok
         simp only [Bool.not_false, Bool.true_and, Bool.or_eq_true, Bool.not_eq_true', not_or, Bool.not_eq_false, Bool.not_eq_true] at hok
         have := (hu hok.1 hok.2).1
         omega
      have hhi := hpw2 ho
      refine ⟨⟨by show 1 ≤ 2 ∧ 2 ≤ 5; omega, fun h => (by cases h), fun _ => ⟨hin ho hu, d0f _, b2, b1⟩, fun h => (by cases h), fun h => (by cases h), fun h => (by cases h), fun h => absurd rfl h⟩, ?_⟩
      exact ⟨rfl, rfl, fun _ => rfl, fun h => absurd rfl h, by show (dig B32 p.d).length ≤ _; omega, by show _ ≤ p.pow; omega, by show p.pow ≤ _; omega⟩
theorem c1i (f : Fm) (n way a c : Int) (g : Bool) (u : Nat) (w : World) (U : Bt w u 153 #[.int .i64 n, .int .i64 way, .int .i64 f.g.rad, .int .i64 f.g.digs, .int .i64 f.g.lo, .int .i64 f.g.hi, .bool f.g.grad, .int .u8 (famB f), .int .i64 a]) (hd : 0 ≤ f.g.digs ∧ f.g.digs ≤ 1000) (hc : bits .or .i64 a 5 = c) (h1 : f.fam = 1) (hw : 1 ≤ way ∧ way ≤ 5) :
 Calls Tryd.prog 156 #[.pointer (some ⟨u, 0, none⟩), .bool g] w (k0b f n way c u w (if way ≤ 2 ∨ (way = 4 ∧ g = false) ∨ (way = 5 ∧ g = true) then ⟨3, g, 0, 0⟩ else ⟨2, g, 2 ^ (wid f.g * f.g.digs.toNat) - 1, f.g.hi⟩)) := by
 have hF : famB f = 65 := by unfold famB; rw [if_pos h1]
 rcases (show way = 1 ∨ way = 2 ∨ way = 3 ∨ way = 4 ∨ way = 5 by omega) with rfl | rfl | rfl | rfl | rfl <;> cases g
 · rw [if_pos (by decide)]
   have HR := fun W u hU => hi0 (c0s f n 1 a 5 c u W hU hc)
   have I := Inv.startW w u 153 (uS f n 1 a) [] U True.intro True.intro
   refine a0d [.p 0 0, .v (.bool false)] I Tryd.func156 ?_
   refine zge I 0 153 (fun Al W I => (HR W _ (I.box 0 153 _)).out) fun Al V Iv _ _ kz => ?_
   rintro _ W ⟨rfl, hO, hB⟩
   refine ⟨_, rfl, kz _ (uS f n 1 c) _ hO hB fun I => ?_⟩
   refine zb I 13 ((famB f) == 66) (false) (bFn (by rw [hF]; decide)) fun Al W I => ?_
   refine zb I 18 ((famB f) == 67) (false) (bFn (by rw [hF]; decide)) fun Al W I => ?_
   refine zq I (fun Al W I => j0u false W) fun Al W I => ?_
   exact zret I fun Al W I => c0z (k := 3) rfl I.bel (I.boxE 153 _)
 · rw [if_pos (by decide)]
   have HR := fun W u hU => hi0 (c0s f n 1 a 5 c u W hU hc)
   have I := Inv.startW w u 153 (uS f n 1 a) [] U True.intro True.intro
   refine a0d [.p 0 0, .v (.bool true)] I Tryd.func156 ?_
   refine zge I 0 153 (fun Al W I => (HR W _ (I.box 0 153 _)).out) fun Al V Iv _ _ kz => ?_
   rintro _ W ⟨rfl, hO, hB⟩
   refine ⟨_, rfl, kz _ (uS f n 1 c) _ hO hB fun I => ?_⟩
   refine zb I 13 ((famB f) == 66) (false) (bFn (by rw [hF]; decide)) fun Al W I => ?_
   refine zb I 18 ((famB f) == 67) (false) (bFn (by rw [hF]; decide)) fun Al W I => ?_
   refine zq I (fun Al W I => j0u true W) fun Al W I => ?_
   exact zret I fun Al W I => c0z (k := 3) rfl I.bel (I.boxE 153 _)
 · rw [if_pos (by decide)]
   have HR := fun W u hU => hi0 (c0s f n 2 a 5 c u W hU hc)
   have I := Inv.startW w u 153 (uS f n 2 a) [] U True.intro True.intro
   refine a0d [.p 0 0, .v (.bool false)] I Tryd.func156 ?_
   refine zge I 0 153 (fun Al W I => (HR W _ (I.box 0 153 _)).out) fun Al V Iv _ _ kz => ?_
   rintro _ W ⟨rfl, hO, hB⟩
   refine ⟨_, rfl, kz _ (uS f n 2 c) _ hO hB fun I => ?_⟩
   refine zb I 13 ((famB f) == 66) (false) (bFn (by rw [hF]; decide)) fun Al W I => ?_
   refine zb I 18 ((famB f) == 67) (false) (bFn (by rw [hF]; decide)) fun Al W I => ?_
   refine zq I (fun Al W I => j0u false W) fun Al W I => ?_
   exact zret I fun Al W I => c0z (k := 3) rfl I.bel (I.boxE 153 _)
 · rw [if_pos (by decide)]
   have HR := fun W u hU => hi0 (c0s f n 2 a 5 c u W hU hc)
   have I := Inv.startW w u 153 (uS f n 2 a) [] U True.intro True.intro
   refine a0d [.p 0 0, .v (.bool true)] I Tryd.func156 ?_
   refine zge I 0 153 (fun Al W I => (HR W _ (I.box 0 153 _)).out) fun Al V Iv _ _ kz => ?_
   rintro _ W ⟨rfl, hO, hB⟩
   refine ⟨_, rfl, kz _ (uS f n 2 c) _ hO hB fun I => ?_⟩
   refine zb I 13 ((famB f) == 66) (false) (bFn (by rw [hF]; decide)) fun Al W I => ?_
   refine zb I 18 ((famB f) == 67) (false) (bFn (by rw [hF]; decide)) fun Al W I => ?_
   refine zq I (fun Al W I => j0u true W) fun Al W I => ?_
   exact zret I fun Al W I => c0z (k := 3) rfl I.bel (I.boxE 153 _)
 · rw [if_neg (by decide)]
   have HR := fun W u hU => hi0 (c0s f n 3 a 5 c u W hU hc)
   have HG := fun W u hU => hi0 (f0o f n 3 c false u W hU hd)
   generalize 2 ^ (wid f.g * f.g.digs.toNat) - 1 = m at *
   have I := Inv.startW w u 153 (uS f n 3 a) [] U True.intro True.intro
   refine a0d [.p 0 0, .v (.bool false)] I Tryd.func156 ?_
   refine zge I 0 153 (fun Al W I => (HR W _ (I.box 0 153 _)).out) fun Al V Iv _ _ kz => ?_
   rintro _ W ⟨rfl, hO, hB⟩
   refine ⟨_, rfl, kz _ (uS f n 3 c) _ hO hB fun I => ?_⟩
   refine zb I 13 ((famB f) == 66) (false) (bFn (by rw [hF]; decide)) fun Al W I => ?_
   refine zb I 18 ((famB f) == 67) (false) (bFn (by rw [hF]; decide)) fun Al W I => ?_
   refine zqo I (fun Al W I => (HG W _ (I.box 0 153 _)).out) fun Al W p59 c59 I => ?_
   exact zret I fun Al W I => ⟨p59, c59, rfl, I.fa.1.mono (by omega), I.bel, I.boxE 153 _⟩
 · rw [if_neg (by decide)]
   have HR := fun W u hU => hi0 (c0s f n 3 a 5 c u W hU hc)
   have HG := fun W u hU => hi0 (f0o f n 3 c true u W hU hd)
   generalize 2 ^ (wid f.g * f.g.digs.toNat) - 1 = m at *
   have I := Inv.startW w u 153 (uS f n 3 a) [] U True.intro True.intro
   refine a0d [.p 0 0, .v (.bool true)] I Tryd.func156 ?_
   refine zge I 0 153 (fun Al W I => (HR W _ (I.box 0 153 _)).out) fun Al V Iv _ _ kz => ?_
   rintro _ W ⟨rfl, hO, hB⟩
   refine ⟨_, rfl, kz _ (uS f n 3 c) _ hO hB fun I => ?_⟩
   refine zb I 13 ((famB f) == 66) (false) (bFn (by rw [hF]; decide)) fun Al W I => ?_
   refine zb I 18 ((famB f) == 67) (false) (bFn (by rw [hF]; decide)) fun Al W I => ?_
   refine zqo I (fun Al W I => (HG W _ (I.box 0 153 _)).out) fun Al W p59 c59 I => ?_
   exact zret I fun Al W I => ⟨p59, c59, rfl, I.fa.1.mono (by omega), I.bel, I.boxE 153 _⟩
 · rw [if_pos (by decide)]
   have HR := fun W u hU => hi0 (c0s f n 4 a 5 c u W hU hc)
   have I := Inv.startW w u 153 (uS f n 4 a) [] U True.intro True.intro
   refine a0d [.p 0 0, .v (.bool false)] I Tryd.func156 ?_
   refine zge I 0 153 (fun Al W I => (HR W _ (I.box 0 153 _)).out) fun Al V Iv _ _ kz => ?_
   rintro _ W ⟨rfl, hO, hB⟩
   refine ⟨_, rfl, kz _ (uS f n 4 c) _ hO hB fun I => ?_⟩
   refine zb I 13 ((famB f) == 66) (false) (bFn (by rw [hF]; decide)) fun Al W I => ?_
   refine zb I 18 ((famB f) == 67) (false) (bFn (by rw [hF]; decide)) fun Al W I => ?_
   refine zq I (fun Al W I => j0u false W) fun Al W I => ?_
   exact zret I fun Al W I => c0z (k := 3) rfl I.bel (I.boxE 153 _)
 · rw [if_neg (by decide)]
   have HR := fun W u hU => hi0 (c0s f n 4 a 5 c u W hU hc)
   have HG := fun W u hU => hi0 (f0o f n 4 c true u W hU hd)
   generalize 2 ^ (wid f.g * f.g.digs.toNat) - 1 = m at *
   have I := Inv.startW w u 153 (uS f n 4 a) [] U True.intro True.intro
   refine a0d [.p 0 0, .v (.bool true)] I Tryd.func156 ?_
   refine zge I 0 153 (fun Al W I => (HR W _ (I.box 0 153 _)).out) fun Al V Iv _ _ kz => ?_
   rintro _ W ⟨rfl, hO, hB⟩
   refine ⟨_, rfl, kz _ (uS f n 4 c) _ hO hB fun I => ?_⟩
   refine zb I 13 ((famB f) == 66) (false) (bFn (by rw [hF]; decide)) fun Al W I => ?_
   refine zb I 18 ((famB f) == 67) (false) (bFn (by rw [hF]; decide)) fun Al W I => ?_
   refine zqo I (fun Al W I => (HG W _ (I.box 0 153 _)).out) fun Al W p59 c59 I => ?_
   exact zret I fun Al W I => ⟨p59, c59, rfl, I.fa.1.mono (by omega), I.bel, I.boxE 153 _⟩
 · rw [if_neg (by decide)]
   have HR := fun W u hU => hi0 (c0s f n 5 a 5 c u W hU hc)
   have HG := fun W u hU => hi0 (f0o f n 5 c false u W hU hd)
   generalize 2 ^ (wid f.g * f.g.digs.toNat) - 1 = m at *
   have I := Inv.startW w u 153 (uS f n 5 a) [] U True.intro True.intro
   refine a0d [.p 0 0, .v (.bool false)] I Tryd.func156 ?_
   refine zge I 0 153 (fun Al W I => (HR W _ (I.box 0 153 _)).out) fun Al V Iv _ _ kz => ?_
   rintro _ W ⟨rfl, hO, hB⟩
   refine ⟨_, rfl, kz _ (uS f n 5 c) _ hO hB fun I => ?_⟩
   refine zb I 13 ((famB f) == 66) (false) (bFn (by rw [hF]; decide)) fun Al W I => ?_
   refine zb I 18 ((famB f) == 67) (false) (bFn (by rw [hF]; decide)) fun Al W I => ?_
   refine zqo I (fun Al W I => (HG W _ (I.box 0 153 _)).out) fun Al W p59 c59 I => ?_
   exact zret I fun Al W I => ⟨p59, c59, rfl, I.fa.1.mono (by omega), I.bel, I.boxE 153 _⟩
 · rw [if_pos (by decide)]
   have HR := fun W u hU => hi0 (c0s f n 5 a 5 c u W hU hc)
   have I := Inv.startW w u 153 (uS f n 5 a) [] U True.intro True.intro
   refine a0d [.p 0 0, .v (.bool true)] I Tryd.func156 ?_
   refine zge I 0 153 (fun Al W I => (HR W _ (I.box 0 153 _)).out) fun Al V Iv _ _ kz => ?_
   rintro _ W ⟨rfl, hO, hB⟩
   refine ⟨_, rfl, kz _ (uS f n 5 c) _ hO hB fun I => ?_⟩
   refine zb I 13 ((famB f) == 66) (false) (bFn (by rw [hF]; decide)) fun Al W I => ?_
   refine zb I 18 ((famB f) == 67) (false) (bFn (by rw [hF]; decide)) fun Al W I => ?_
   refine zq I (fun Al W I => j0u true W) fun Al W I => ?_
   exact zret I fun Al W I => c0z (k := 3) rfl I.bel (I.boxE 153 _)
theorem d1l (f : Fm) (n way a c : Int) (p : Pl) (u : Nat) (w : World) (U : Bt w u 153 #[.int .i64 n, .int .i64 way, .int .i64 f.g.rad, .int .i64 f.g.digs, .int .i64 f.g.lo, .int .i64 f.g.hi, .bool f.g.grad, .int .u8 (famB f), .int .i64 a]) (G : c0g f) (hc : bits .or .i64 a 5 = c) (hw : 1 ≤ way ∧ way ≤ 5) (ho : p.over = true) :
 Calls Tryd.prog 156 #[.pointer (some ⟨u, 0, none⟩), .bool p.neg] w (k0b f n way c u w (f.placedV p way)) := by
 have GG := b0h G.g
 have h1 := GG.d1
 have h2 := GG.d2
 have hf := G.fam
 unfold Fm.placedV
 rw [if_pos ho]
 by_cases f2 : f.fam = 2
 · rw [if_pos f2]; exact b1z f n way a c p.neg u w U (by omega) hc f2
 · rw [if_neg f2]
   by_cases f3 : f.fam = 3
   · rw [if_pos f3]; exact c1a f n way a c p.neg u w U hc (by omega) f2
   · rw [if_neg f3]; exact c1i f n way a c p.neg u w U (by omega) hc (by omega) hw
def h0u (f : Fm) (n way c : Int) (u : Nat) (w : World) (base : Nat) (v : Vl) (en : Ending) (w' : World) : Prop :=
 ∃ p k, en = .returned (.agg #[.int .i64 (v.cls : Int), .bool v.neg, .slice p (dig B32 v.d).length k, .int .i64 v.pow]) ∧ Own w' base .u32 76 p k (dig B32 v.d) ∧ Kp [u] w w' ∧ Bt w' u 153 #[.int .i64 n, .int .i64 way, .int .i64 f.g.rad, .int .i64 f.g.digs, .int .i64 f.g.lo, .int .i64 f.g.hi, .bool f.g.grad, .int .u8 (famB f), .int .i64 c]
theorem k0b.ub {f : Fm} {n way c : Int} {u base : Nat} {w w' : World} {v : Vl} {en : Ending} (h : k0b f n way c u w v en w') (hb : base ≤ w.heap.size) : h0u f n way c u w base v en w' := by
 obtain ⟨p, k, h1, h2, h3, h4⟩ := h
 exact ⟨p, k, h1, h2.mono hb, h3, h4⟩
theorem e0v {f : Fm} {n way c : Int} {u k base : Nat} {g : Bool} {w w' : World} {en : Ending} (h : en = .returned (.agg #[.int .i64 (k : Int), .bool g, .slice none 0 0, .int .i64 0])) (hk : Kp [u] w w') (hb : Bt w' u 153 #[.int .i64 n, .int .i64 way, .int .i64 f.g.rad, .int .i64 f.g.digs, .int .i64 f.g.lo, .int .i64 f.g.hi, .bool f.g.grad, .int .u8 (famB f), .int .i64 c]) : h0u f n way c u w base ⟨k, g, 0, 0⟩ en w' := by
 refine ⟨none, 0, ?_, ?_, hk, hb⟩
 · rw [h, a0b]; rfl
 · show Own _ _ _ _ _ _ (dig B32 0); rw [a0b]; exact Own.nil _ _ _ _
theorem pl_n (f : Fm) (n way : Int) (ng : Bool) (d : Nat) (pw : Int) (pp : Option Addr) (cc base u : Nat) (w : World) (U : Bt w u 153 #[.int .i64 n, .int .i64 way, .int .i64 f.g.rad, .int .i64 f.g.digs, .int .i64 f.g.lo, .int .i64 f.g.hi, .bool f.g.grad, .int .u8 (famB f), .int .i64 0]) (hp : Own w base .u32 76 pp cc (dig B32 d)) (ex un : Bool) :
 Calls Tryd.prog 146 #[.pointer (some ⟨u, 0, none⟩), .agg #[.bool ng, .slice pp (dig B32 d).length cc, .int .i64 pw, .bool ex, .bool false, .bool un]] w (h0u f n way (((f.placedM ⟨ng, d, pw, ex, false, un⟩ way).2 : Nat) : Int) u w base (f.placedV ⟨ng, d, pw, ex, false, un⟩ way)) := by
 have hV : f.placedV ⟨ng, d, pw, ex, false, un⟩ way = if un = true ∧ f.fam ≠ 1 ∧ pw < f.g.lo then ⟨1, false, 0, 0⟩ else if d = 0 then ⟨1, ng && decide (f.fam = 1), 0, 0⟩ else ⟨2, ng, d, pw⟩ := by unfold Fm.placedV; simp only [Bool.false_eq_true, if_false]
 have hM : (f.placedM ⟨ng, d, pw, ex, false, un⟩ way).2 = if un = true ∧ f.fam ≠ 1 ∧ pw < f.g.lo then 3 else f.flP ⟨ng, d, pw, ex, false, un⟩ := by
  unfold Fm.placedM; simp only [Bool.false_eq_true, if_false]
  split
  · rfl
  · split <;> rfl
 have hFL : f.flP ⟨ng, d, pw, ex, false, un⟩ = if un then (if f.fam = 1 then (if ex then 0 else 3) else 3) else if ex then 0 else 1 := rfl
 have hF1 : f.fam = 1 → (famB f != 65) = false := fun h => by unfold famB; rw [if_pos h]; rfl
 have hF2 : f.fam ≠ 1 → (famB f != 65) = true := fun h => by unfold famB; rw [if_neg h]; split <;> rfl
 have hB1 : (famB f != 65) = true → f.fam ≠ 1 := fun h k => by rw [hF1 k] at h; cases h
 have hB2 : (famB f != 65) = false → f.fam = 1 := fun h => Classical.byContradiction fun k => by rw [hF2 k] at h; cases h
 have hz := a0g a0a d
 have HR9 := fun W u hU => hi0 (c0s f n way 0 1 1 u W hU (by decide +kernel))
 have HR3 := fun k (hk : k = 0 ∨ k = 1) W u hU => hi0 (c0s f n way k 3 3 u W hU (by rcases hk with rfl | rfl <;> decide +kernel))
 have HR2 := fun k (hk : k = 1) W u hU => hi0 (c0s f n way k 2 3 u W hU (by subst hk; decide +kernel))
 have HZ := fun k W u hU => hi0 (d1j f n way k ng u W hU)
 rw [hFL] at hM
 generalize (f.placedM ⟨ng, d, pw, ex, false, un⟩ way).2 = FL at *
 generalize f.placedV ⟨ng, d, pw, ex, false, un⟩ way = v at *
 clear hFL
 generalize (ng && decide (f.fam = 1)) = q at *
 have I := Inv.startW w u 153 (uS f n way 0) [ownF base .u32 76 pp cc (dig B32 d)] U ⟨hp, True.intro⟩ ⟨fun hf => hp.far U (by kernel_rfl) hf.1 hf.2, True.intro⟩
 refine a0d [.p 0 0, .v (.agg #[.bool ng, .slice pp (dig B32 d).length cc, .int .i64 pw, .bool ex, .bool false, .bool un])] I Tryd.func146 ?_
 obtain ⟨ne, hne⟩ : ∃ ne, (!ex) = ne := ⟨_, rfl⟩
 refine zb I 7 (!ex) (ne) (hne) fun Al W I => ?_
 refine zcut I (some 2000007) (fun fr bx gs => ∃ (U1 : Nat → Value) (k1 : Int), fr = (.p 0 0 :: .v (.agg #[.bool ng, .slice pp (dig B32 d).length cc, .int .i64 pw, .bool ex, .bool false, .bool un]) :: .v undef :: .p 1 0 :: .p 2 0 :: sw U1 5 2 (.v (.bool ne) :: sw U1 8 2 (.v undef :: sw U1 11 6 (.v undef :: sw U1 18 18 (.v undef :: .v (U1 37) :: .v undef :: sw U1 39 12 (.v undef :: sw U1 52 11 []))))) : List SV) ∧ bx = [⟨153, (uS f n way k1), false⟩, ⟨143, [.v (.bool ng), .v (.slice pp (dig B32 d).length cc), .v (.int .i64 pw), .v (.bool ex), .v (.bool false), .v (.bool un)], false⟩, ⟨29, [.v (.int .i64 0), .v (.bool false), .v (.slice none 0 0), .v (.int .i64 0)], false⟩] ∧ gs = [ownF base .u32 76 pp cc (dig B32 d)] ∧ (k1 = if ex then 0 else 1)) ?_ ?_
 · intro J hJ Al W I
   rcases Bool.eq_false_or_eq_true ne with rfl | rfl
   · refine zge I 0 153 (fun Al W I => (HR9 W _ (I.box 0 153 _)).out) fun Al V Iv _ _ kz => ?_
     rintro _ W ⟨rfl, hO, hB⟩
     refine ⟨_, rfl, kz _ (uS f n way 1) _ hO hB fun I => ?_⟩
     exact a0m I J fun Al W U I => hJ _ _ _ _ _ ⟨U, 1, rfl, rfl, rfl, (by revert hne; cases ex <;> simp)⟩ (I.pick [0])
   exact a0m I J fun Al W U I => hJ _ _ _ _ _ ⟨U, 0, rfl, rfl, rfl, (by revert hne; cases ex <;> simp)⟩ (I.pick [0])
 rintro _ _ _ ⟨U1, k1, rfl, rfl, rfl, hk1⟩ Al W I
 refine zcut I (some 1000000) (fun fr bx gs => ∃ (U2 : Nat → Value) (k2 : Int), fr = (.p 0 0 :: .v (.agg #[.bool ng, .slice pp (dig B32 d).length cc, .int .i64 pw, .bool ex, .bool false, .bool un]) :: .v undef :: .p 1 0 :: .p 2 0 :: sw U2 5 2 (.v (.bool ne) :: sw U2 8 43 (.v undef :: sw U2 52 11 [])) : List SV) ∧ bx = [⟨153, (uS f n way k2), false⟩, ⟨143, [.v (.bool ng), .v (.slice pp (dig B32 d).length cc), .v (.int .i64 pw), .v (.bool ex), .v (.bool false), .v (.bool un)], false⟩, ⟨29, [.v (.int .i64 0), .v (.bool false), .v (.slice none 0 0), .v (.int .i64 0)], false⟩] ∧ gs = [ownF base .u32 76 pp cc (dig B32 d)] ∧ ((FL : Int) = k2) ∧ (¬ (un = true ∧ f.fam ≠ 1 ∧ pw < f.g.lo))) ?_ ?_
 · intro J hJ Al W I
   rcases Bool.eq_false_or_eq_true (un) with f19 | f19
   · refine zb I 19 (un) (true) (f19) fun Al W I => ?_
     rcases Bool.eq_false_or_eq_true ((famB f) != 65) with f25 | f25
     · refine zb I 25 ((famB f) != 65) (true) (f25) fun Al W I => ?_
       refine zge I 0 153 (fun Al W I => (HR3 k1 (by rw [hk1]; split <;> simp) W _ (I.box 0 153 _)).out) fun Al V Iv _ _ kz => ?_
       rintro _ W ⟨rfl, hO, hB⟩
       refine ⟨_, rfl, kz _ (uS f n way 3) _ hO hB fun I => ?_⟩
       by_cases f36 : pw < f.g.lo
       · refine zd [] I fun Al W I => ?_
         refine zk [0, 1, 2, 3, 4, 5, 6] I fun I => ?_
         refine zkb 7 I (decide (pw < f.g.lo)) (true) (dTr f36) fun I => ?_
         refine zret I (v := fun Al => .agg #[.int .i64 1, .bool false, .slice none 0 0, .int .i64 0]) fun Al W I => ?_
         first | (rw [hV, hM, if_pos ⟨f19, hB1 f25, f36⟩, if_pos ⟨f19, hB1 f25, f36⟩]; exact e0v (k := 1) rfl I.bel (I.boxE 153 _)) | (rw [hV, hk2, if_neg hlo, if_neg (fun h => by have := hz.2 h; have := bnF f51; omega)]; exact ⟨pp, cc, rfl, I.fa.1, I.bel, I.boxE 153 _⟩)
       refine zd [] I fun Al W I => ?_
       refine zk [0, 1, 2, 3, 4, 5, 6] I fun I => ?_
       refine zkb 7 I (decide (pw < f.g.lo)) (false) (dFa f36) fun I => ?_
       exact a0m I J fun Al W U I => hJ _ _ _ _ _ ⟨U, 3, rfl, rfl, rfl, (by have h1 := hB1 f25; rw [hM, if_neg (fun h => f36 h.2.2), if_pos f19, if_neg h1]; rfl), (fun h => f36 h.2.2)⟩ (I.pick [0])
     refine zb I 25 ((famB f) != 65) (false) (f25) fun Al W I => ?_
     refine zb I 40 (un) (true) (f19) fun Al W I => ?_
     rcases Bool.eq_false_or_eq_true (!ex) with f44 | f44
     · refine zb I 44 (!ex) (true) (f44) fun Al W I => ?_
       refine zge I 0 153 (fun Al W I => (HR2 k1 (by rw [hk1]; revert f44; cases ex <;> simp) W _ (I.box 0 153 _)).out) fun Al V Iv _ _ kz => ?_
       rintro _ W ⟨rfl, hO, hB⟩
       refine ⟨_, rfl, kz _ (uS f n way 3) _ hO hB fun I => ?_⟩
       exact a0m I J fun Al W U I => hJ _ _ _ _ _ ⟨U, 3, rfl, rfl, rfl, (by have h1 := hB2 f25; rw [hM, if_neg (fun h => h.2.1 h1), if_pos f19, if_pos h1]; revert f44; cases ex <;> simp), (fun h => by have h1 := hB2 f25; exact h.2.1 h1)⟩ (I.pick [0])
     refine zb I 44 (!ex) (false) (f44) fun Al W I => ?_
     exact a0m I J fun Al W U I => hJ _ _ _ _ _ ⟨U, k1, rfl, rfl, rfl, (by have h1 := hB2 f25; rw [hM, if_neg (fun h => h.2.1 h1), if_pos f19, if_pos h1, hk1]; revert f44; cases ex <;> simp), (fun h => by have h1 := hB2 f25; exact h.2.1 h1)⟩ (I.pick [0])
   refine zb I 19 (un) (false) (f19) fun Al W I => ?_
   refine zb I 40 (un) (false) (f19) fun Al W I => ?_
   exact a0m I J fun Al W U I => hJ _ _ _ _ _ ⟨U, k1, rfl, rfl, rfl, (by rw [hM, if_neg (fun h => by rw [f19] at h; cases h.1), if_neg (by rw [f19]; simp), hk1]; split <;> rfl), (fun h => by rw [f19] at h; cases h.1)⟩ (I.pick [0])
 rintro _ _ _ ⟨U2, k2, rfl, rfl, rfl, hk2, hlo⟩ Al W I
 rcases Bool.eq_false_or_eq_true ((((dig B32 d).length : Nat) : Int) == 0) with f51 | f51
 · refine zb I 51 ((((dig B32 d).length : Nat) : Int) == 0) (true) (f51) fun Al W I => ?_
   refine zq I (fun Al W I => (HZ k2 W _ (I.box 0 153 _)).out) fun Al W I => ?_
   rw [hV, hk2, if_neg hlo, if_pos (hz.1 (by have := beq_iff_eq.1 f51; omega))]
   exact zret I fun Al W I => e0v (k := 1) rfl I.bel (I.boxE 153 _)
 refine zb I 51 ((((dig B32 d).length : Nat) : Int) == 0) (false) (f51) fun Al W I => ?_
 refine zret I (v := fun Al => .agg #[.int .i64 2, .bool ng, .slice pp (dig B32 d).length cc, .int .i64 pw]) fun Al W I => ?_
 first | (rw [hV, hM, if_pos ⟨f19, hB1 f25, f36⟩, if_pos ⟨f19, hB1 f25, f36⟩]; exact e0v (k := 1) rfl I.bel (I.boxE 153 _)) | (rw [hV, hk2, if_neg hlo, if_neg (fun h => by have := hz.2 h; have := bnF f51; omega)]; exact ⟨pp, cc, rfl, I.fa.1, I.bel, I.boxE 153 _⟩)
theorem j1d (f : Fm) (n way : Int) (p : Pl) (pp : Option Addr) (cc base u : Nat) (w : World) (U : Bt w u 153 #[.int .i64 n, .int .i64 way, .int .i64 f.g.rad, .int .i64 f.g.digs, .int .i64 f.g.lo, .int .i64 f.g.hi, .bool f.g.grad, .int .u8 (famB f), .int .i64 0]) (hb : base ≤ w.heap.size) (G : c0g f) (hw : 1 ≤ way ∧ way ≤ 5) (ho : p.over = true) :
 Calls Tryd.prog 146 #[.pointer (some ⟨u, 0, none⟩), .agg #[.bool p.neg, .slice pp (dig B32 p.d).length cc, .int .i64 p.pow, .bool true, .bool true, .bool p.under]] w (h0u f n way 5 u w base (f.placedV p way)) := by
 have HO := fun W u hU => hi0 (d1l f n way 0 5 p u W hU G (by decide +kernel) hw ho)
 generalize f.placedV p way = v at *
 have I := Inv.startW w u 153 (uS f n way 0) [] U True.intro True.intro
 refine a0d [.p 0 0, .v (.agg #[.bool p.neg, .slice pp (dig B32 p.d).length cc, .int .i64 p.pow, .bool true, .bool true, .bool p.under])] I Tryd.func146 ?_
 refine zge I 0 153 (fun Al W I => (HO W _ (I.box 0 153 _)).out) fun Al V Iv _ _ kz => ?_
 rintro _ W ⟨p16, c16, rfl, o16, hO, hB⟩
 refine ⟨_, rfl, kz _ (uS f n way 5) _ hO hB fun I => ?_⟩
 have I := I.ownB base o16
 exact zret I fun Al W I => ⟨p16, c16, rfl, I.fa.1, I.bel, I.boxE 153 _⟩
theorem j1e (f : Fm) (n way : Int) (p : Pl) (pp : Option Addr) (cc base u : Nat) (w : World) (U : Bt w u 153 #[.int .i64 n, .int .i64 way, .int .i64 f.g.rad, .int .i64 f.g.digs, .int .i64 f.g.lo, .int .i64 f.g.hi, .bool f.g.grad, .int .u8 (famB f), .int .i64 0]) (hb : base ≤ w.heap.size) (G : c0g f) (hw : 1 ≤ way ∧ way ≤ 5) (ho : p.over = true) :
 Calls Tryd.prog 146 #[.pointer (some ⟨u, 0, none⟩), .agg #[.bool p.neg, .slice pp (dig B32 p.d).length cc, .int .i64 p.pow, .bool false, .bool true, .bool p.under]] w (h0u f n way 5 u w base (f.placedV p way)) := by
 have HO := fun W u hU => hi0 (d1l f n way 1 5 p u W hU G (by decide +kernel) hw ho)
 have HR := fun W u hU => hi0 (c0s f n way 0 1 1 u W hU (by decide +kernel))
 generalize f.placedV p way = v at *
 have I := Inv.startW w u 153 (uS f n way 0) [] U True.intro True.intro
 refine a0d [.p 0 0, .v (.agg #[.bool p.neg, .slice pp (dig B32 p.d).length cc, .int .i64 p.pow, .bool false, .bool true, .bool p.under])] I Tryd.func146 ?_
 refine zge I 0 153 (fun Al W I => (HR W _ (I.box 0 153 _)).out) fun Al V Iv _ _ kz => ?_
 rintro _ W ⟨rfl, hO, hB⟩
 refine ⟨_, rfl, kz _ (uS f n way 1) _ hO hB fun I => ?_⟩
 refine zge I 0 153 (fun Al W I => (HO W _ (I.box 0 153 _)).out) fun Al V Iv _ _ kz => ?_
 rintro _ W ⟨p16, c16, rfl, o16, hO, hB⟩
 refine ⟨_, rfl, kz _ (uS f n way 5) _ hO hB fun I => ?_⟩
 have I := I.ownB base o16
 exact zret I fun Al W I => ⟨p16, c16, rfl, I.fa.1, I.bel, I.boxE 153 _⟩
theorem f1r (f : Fm) (n way : Int) (p : Pl) (pp : Option Addr) (cc base u : Nat) (w : World) (U : Bt w u 153 #[.int .i64 n, .int .i64 way, .int .i64 f.g.rad, .int .i64 f.g.digs, .int .i64 f.g.lo, .int .i64 f.g.hi, .bool f.g.grad, .int .u8 (famB f), .int .i64 0]) (hp : Own w base .u32 76 pp cc (dig B32 p.d)) (hb : base ≤ w.heap.size) (G : c0g f) (hw : 1 ≤ way ∧ way ≤ 5) :
 Calls Tryd.prog 146 #[.pointer (some ⟨u, 0, none⟩), .agg #[.bool p.neg, .slice pp (dig B32 p.d).length cc, .int .i64 p.pow, .bool p.exact, .bool p.over, .bool p.under]] w (h0u f n way (((f.placedM p way).2 : Nat) : Int) u w base (f.placedV p way)) := by
 obtain ⟨ng, d, pw, ex, ov, un⟩ := p
 cases ov with
 | true =>
  have e : (f.placedM ⟨ng, d, pw, ex, true, un⟩ way).2 = 5 := by unfold Fm.placedM; rw [if_pos rfl]
  rw [e]
  cases ex
  · exact j1e f n way ⟨ng, d, pw, false, true, un⟩ pp cc base u w U hb G hw rfl
  · exact j1d f n way ⟨ng, d, pw, true, true, un⟩ pp cc base u w U hb G hw rfl
 | false =>
  exact pl_n f n way ng d pw pp cc base u w U hp ex un
theorem q0q (ng : Bool) (p q : Option Addr) (c d : Nat) (num den : Nat) (e : Int) (g : Gd) (way : Int) (w : World) (hp : Rd w .u32 p (dig B32 num)) (hq : Rd w .u32 q (dig B32 den))
 (hl : (dig B32 num).length ≤ 100000) (hl2 : (dig B32 den).length ≤ 100000) (hn : 0 < num) (hd : 0 < den) (he : -1000000 ≤ e ∧ e ≤ 1000000) (G : g0k g) (hw1 : 1 ≤ way) (hw2 : way ≤ 5) :
 Calls Tryd.prog 97 #[.agg #[.bool ng, .slice p (dig B32 num).length c, .slice q (dig B32 den).length d, .int .i64 e], .agg #[.int .i64 g.rad, .int .i64 g.digs, .int .i64 g.lo, .int .i64 g.hi, .bool g.grad], .int .i64 way] w (t0x w (a0r ng num den e g way)) := by
 have h := s0f ng p q c d num den e g way (theK num den e (wid g) g.digs.toNat) w hp hq hl hl2 hn hd he G hw1 hw2 (o0e hn hd e (b0d g).1 (by have := G.d1; omega))
 unfold a0r
 rw [if_neg (by omega)]
 exact h
theorem j1f (f : Fm) (n way : Int) (ng : Bool) (p q : Option Addr) (c d : Nat) (num den : Nat) (e : Int) (u : Nat) (w : World) (U : Bt w u 153 #[.int .i64 n, .int .i64 way, .int .i64 f.g.rad, .int .i64 f.g.digs, .int .i64 f.g.lo, .int .i64 f.g.hi, .bool f.g.grad, .int .u8 (famB f), .int .i64 0]) (hp : Rd w .u32 p (dig B32 num)) (hq : Rd w .u32 q (dig B32 den))
 (hl : (dig B32 num).length ≤ 100000) (hl2 : (dig B32 den).length ≤ 100000) (hn : 0 < num) (hd : 0 < den) (he : -1000000 ≤ e ∧ e ≤ 1000000) (G : c0g f) (hw : 1 ≤ way ∧ way ≤ 5) :
 Calls Tryd.prog 119 #[.pointer (some ⟨u, 0, none⟩), .agg #[.bool ng, .slice p (dig B32 num).length c, .slice q (dig B32 den).length d, .int .i64 e]] w
  (k0b f n way (((f.placedM (a0r ng num den e f.g way) way).2 : Nat) : Int) u w (f.placedV (a0r ng num den e f.g way) way)) := by
 have GG := b0h G.g
 have HF := fun W h1 h2 => hi0 (q0q ng p q c d num den e f.g way W h1 h2 hl hl2 hn hd he GG hw.1 hw.2)
 have HP := fun pp cc base u W U h1 h2 => hi0 (f1r f n way (a0r ng num den e f.g way) pp cc base u W U h1 h2 G hw)
 have hR := z0o (neg := ng) (num := num) (e := e) (way := way) hd GG
 generalize (f.placedM (a0r ng num den e f.g way) way).2 = fl at *
 generalize f.placedV (a0r ng num den e f.g way) way = v at *
 generalize a0r ng num den e f.g way = P at *
 have I := Inv.startW w u 153 (uS f n way 0) [rdF .u32 p (dig B32 num), rdF .u32 q (dig B32 den)] U ⟨hp, hq, True.intro⟩ ⟨fun hf => hp.far U (by kernel_rfl) hf.1 hf.2, fun hf => hq.far U (by kernel_rfl) hf.1 hf.2, True.intro⟩
 refine a0d [.p 0 0, .v (.agg #[.bool ng, .slice p (dig B32 num).length c, .slice q (dig B32 den).length d, .int .i64 e])] I Tryd.func119 ?_
 refine zcut I none (fun fr bx gs => ∃ (U1 : Nat → Value) (p16 : Option Addr) (c16 : Nat), fr = (.p 0 0 :: .v (.agg #[.bool ng, .slice p (dig B32 num).length c, .slice q (dig B32 den).length d, .int .i64 e]) :: .v undef :: .p 1 0 :: .p 2 0 :: sw U1 5 12 [] : List SV) ∧ bx = [⟨153, (uS f n way (fl : Int)), false⟩, ⟨146, [.v (.bool ng), .v (.slice p (dig B32 num).length c), .v (.slice q (dig B32 den).length d), .v (.int .i64 e)], false⟩, ⟨29, [.v (.int .i64 (v.cls : Int)), .v (.bool v.neg), .v (.slice p16 (dig B32 v.d).length c16), .v (.int .i64 v.pow)], false⟩] ∧ gs = [ownF w.heap.size .u32 76 p16 c16 (dig B32 v.d), rdF .u32 p (dig B32 num), rdF .u32 q (dig B32 den)]) ?_ ?_
 · intro J hJ Al W I
   refine zd [0, 2] I fun Al W I => ?_
   refine zk [0, 1, 2, 3, 4, 6, 7, 8] I fun I => ?_
   refine zo2 5 9 I (fun I => ?_) (fun I => ?_)
   · refine zn I fun Al W I => ?_
     refine zo 9 I fun I => ?_
     refine zn I fun Al W I => ?_
     refine zo 10 I fun I => ?_
     refine zqo I (fun Al W I => (HF W I.fa.1 I.fa.2.1).out) fun Al W p15 c15 I => ?_
     refine zo 11 I fun I => ?_
     refine zge I 0 153 (fun Al W I => have hzW := I.bel.size; (HP p15 c15 _ _ W (I.box 0 153 _) I.fa.1 (by omega)).out) fun Al V Iv _ _ kz => ?_
     rintro _ W ⟨p16, c16, rfl, o16, hO, hB⟩
     refine ⟨_, rfl, kz _ (uS f n way (fl : Int)) _ hO hB fun I => ?_⟩
     have I := I.own o16
     refine zo 12 I fun I => ?_
     refine zn I fun Al W I => ?_
     exact a0m I J fun Al W U I => hJ _ _ _ _ _ ⟨U, p16, c16, rfl, rfl, rfl⟩ (I.pick [0, 2, 3])
   refine zn I fun Al W I => ?_
   refine zo 5 I fun I => ?_
   refine zn I fun Al W I => ?_
   refine zo 10 I fun I => ?_
   refine zqo I (fun Al W I => (HF W I.fa.1 I.fa.2.1).out) fun Al W p15 c15 I => ?_
   refine zo 11 I fun I => ?_
   refine zge I 0 153 (fun Al W I => have hzW := I.bel.size; (HP p15 c15 _ _ W (I.box 0 153 _) I.fa.1 (by omega)).out) fun Al V Iv _ _ kz => ?_
   rintro _ W ⟨p16, c16, rfl, o16, hO, hB⟩
   refine ⟨_, rfl, kz _ (uS f n way (fl : Int)) _ hO hB fun I => ?_⟩
   have I := I.own o16
   refine zo 12 I fun I => ?_
   refine zn I fun Al W I => ?_
   exact a0m I J fun Al W U I => hJ _ _ _ _ _ ⟨U, p16, c16, rfl, rfl, rfl⟩ (I.pick [0, 2, 3])
 rintro _ _ _ ⟨U1, p16, c16, rfl, rfl, rfl⟩ Al W I
 exact zret I fun Al W I => ⟨p16, c16, rfl, I.fa.1, I.bel, I.boxE 153 _⟩
structure VrOk (r : Vr) : Prop where
 c : 1 ≤ r.cls ∧ r.cls ≤ 5
 x0 : r.cls ≠ 2 → r.x = vz
 x2 : r.cls = 2 → r.x.m ≠ 0 ∧ r.x.neg = r.neg
 bare : Bare r.x
 len : (dig B32 r.x.m).length ≤ 20
 lo : -18000 ≤ r.x.e
 hi : r.x.e ≤ 18000
def j0w (f : Fm) (n way : Int) (u : Nat) (w : World) (base : Nat) (r : Vr × Nat) (en : Ending) (w' : World) : Prop :=
 ∃ v, VRep f v r.1 ∧ h0u f n way ((r.2 : Nat) : Int) u w base v en w'
theorem q0r {f : Fm} {n way : Int} {u k fl base : Nat} {g : Bool} {x : Dv} {w w' : World} {en : Ending} (hk2 : k ≠ 2) (h : en = .returned (.agg #[.int .i64 (k : Int), .bool g, .slice none 0 0, .int .i64 0])) (hk : Kp [u] w w') (hb : Bt w' u 153 #[.int .i64 n, .int .i64 way, .int .i64 f.g.rad, .int .i64 f.g.digs, .int .i64 f.g.lo, .int .i64 f.g.hi, .bool f.g.grad, .int .u8 (famB f), .int .i64 (fl : Int)]) : j0w f n way u w base (⟨k, g, x⟩, fl) en w' :=
 ⟨⟨k, g, 0, 0⟩, f0p hk2, e0v h hk hb⟩
theorem j0w.mono {f : Fm} {n way : Int} {u base b' : Nat} {w w' : World} {r : Vr × Nat} {en : Ending} (h : j0w f n way u w base r en w') (hb : b' ≤ base) : j0w f n way u w b' r en w' := by
 obtain ⟨v, h1, p, k, h2, h3, h4, h5⟩ := h
 exact ⟨v, h1, p, k, h2, h3.mono hb, h4, h5⟩
theorem c1j (f : Fm) (n way : Int) (x : Dv) (p : Option Addr) (c u : Nat) (w : World) (U : Bt w u 153 #[.int .i64 n, .int .i64 way, .int .i64 f.g.rad, .int .i64 f.g.digs, .int .i64 f.g.lo, .int .i64 f.g.hi, .bool f.g.grad, .int .u8 (famB f), .int .i64 0]) (hp : Rd w .u32 p (dig B32 x.m))
 (hl : (dig B32 x.m).length ≤ 100000) (he : -1000000 ≤ x.e ∧ x.e ≤ 1000000) (G : c0g f) (hw : 1 ≤ way ∧ way ≤ 5) :
 Calls Tryd.prog 115 #[.pointer (some ⟨u, 0, none⟩), .agg #[.bool x.neg, .slice p (dig B32 x.m).length c, .int .i64 x.e]] w (j0w f n way u w w.heap.size (f.numM x way)) := by
 have hs : f0e ⟨x.neg, x.m, x.e⟩ = f0e x := rfl
 have HS := fun W => hi0 (d0t x.neg p _ c x.e x.m W rfl)
 rw [hs] at HS
 have h0 := z0f x
 by_cases hx : x.m = 0
 · have hn : f.numM x way = (⟨1, false, vz⟩, 0) := by unfold Fm.numM Fm.zeroM; rw [if_pos hx]; simp
   rw [hn]
   have HZ := fun W u hU => hi0 (d1j f n way 0 false u W hU)
   rw [Bool.false_and] at HZ
   have hd := h0.2 hx
   generalize f0e x = sx at *
   have I := Inv.startW w u 153 (uS f n way 0) [rdF .u32 p (dig B32 x.m)] U ⟨hp, True.intro⟩ ⟨fun hf => hp.far U (by kernel_rfl) hf.1 hf.2, True.intro⟩
   refine a0d [.p 0 0, .v (.agg #[.bool x.neg, .slice p (dig B32 x.m).length c, .int .i64 x.e])] I Tryd.func115 ?_
   refine zq I (fun Al W I => (HS W).out) fun Al W I => ?_
   refine zb I 7 (sx == 0) (true) (beq_iff_eq.2 hd) fun Al W I => ?_
   refine zq I (fun Al W I => (HZ W _ (I.box 0 153 _)).out) fun Al W I => ?_
   exact zret I fun Al W I => q0r (k := 1) (by decide) rfl I.bel (I.boxE 153 _)
 · have hn : f.numM x way = f.placedM (a0r x.neg x.m 1 x.e f.g way) way := by unfold Fm.numM; rw [if_neg hx]
   rw [hn]
   have hd : f0e x ≠ 0 := fun h => hx (h0.1 h)
   have l1 : (dig B32 1).length ≤ 1 := by rw [a0e a0a]; unfold B32; omega
   have HF := fun p q c d u W U h1 h2 => hi0 (j1f f n way x.neg p q c d x.m 1 x.e u W U h1 h2 hl (by omega) (by omega) (by omega) he G hw)
   have HV := (n0c G (neg := x.neg) (num := x.m) (den := 1) (e := x.e) (way := way) (by omega)).2
   have hm : f.placedM (a0r x.neg x.m 1 x.e f.g way) way = ((f.placedM (a0r x.neg x.m 1 x.e f.g way) way).1, (f.placedM (a0r x.neg x.m 1 x.e f.g way) way).2) := rfl
   rw [hm]
   generalize (f.placedM (a0r x.neg x.m 1 x.e f.g way) way).1 = r at *
   generalize (f.placedM (a0r x.neg x.m 1 x.e f.g way) way).2 = fl at *
   generalize f.placedV (a0r x.neg x.m 1 x.e f.g way) way = v at *
   generalize f0e x = sx at *
   have I := Inv.startW w u 153 (uS f n way 0) [rdF .u32 p (dig B32 x.m)] U ⟨hp, True.intro⟩ ⟨fun hf => hp.far U (by kernel_rfl) hf.1 hf.2, True.intro⟩
   refine a0d [.p 0 0, .v (.agg #[.bool x.neg, .slice p (dig B32 x.m).length c, .int .i64 x.e])] I Tryd.func115 ?_
   refine zq I (fun Al W I => (HS W).out) fun Al W I => ?_
   refine zb I 7 (sx == 0) (false) (bFn hd) fun Al W I => ?_
   refine zd [0, 2] I fun Al W I => ?_
   refine zk [0, 1, 2, 3, 4, 5, 6, 8, 9, 10] I fun I => ?_
   refine zo 7 I fun I => ?_
   refine zqo I (fun Al W I => have hzW := I.bel.size; sof 1 1 rfl (by omega) W) fun Al W p17 c17 I => ?_
   refine zk [11] I fun I => ?_
   refine zo 12 I fun I => ?_
   refine zge I 0 153 (fun Al W I => (HF p p17 c c17 _ W (I.box 0 153 _) I.fa.2.1 I.fa.1.rd).out) fun Al V Iv _ _ kz => ?_
   rintro _ W ⟨p22, c22, rfl, o22, hO, hB⟩
   refine ⟨_, rfl, kz _ (uS f n way (fl : Int)) _ hO hB fun I => ?_⟩
   have I := I.own o22
   refine zo 13 I fun I => ?_
   refine zn I fun Al W I => ?_
   exact zret I fun Al W I => ⟨v, HV, p22, c22, rfl, I.fa.1.mono (by omega), I.bel, I.boxE 153 _⟩
structure Vp where
 v : Vl
 p : Option Addr
 c : Nat
def Vp.cells (x : Vp) : List Value := [.int .i64 (x.v.cls : Int), .bool x.v.neg, .slice x.p (dig B32 x.v.d).length x.c, .int .i64 x.v.pow]
theorem Vp.len (x : Vp) : x.cells.length = 4 := rfl
theorem q0s (x y : Dv) (p q : Option Addr) (c d base : Nat) (w : World) (hx : Bare x) (hy : Bare y) (sx : SmD x) (sy : SmD y) (hp : Own w base .u32 76 p c (dig B32 x.m)) (hq : Own w base .u32 76 q d (dig B32 y.m)) (hT : TabW w) (hb : base ≤ w.heap.size) :
 Calls Tryd.prog 101 #[.agg #[.bool x.neg, .slice p (dig B32 x.m).length c, .int .i64 x.e], .agg #[.bool y.neg, .slice q (dig B32 y.m).length d, .int .i64 y.e]] w (f0h w base (f0w x y)) := by
 have h1 := sx.len
 have h2 := sy.len
 have h3 := sx.lo
 have h4 := sx.hi
 have h5 := sy.lo
 have h6 := sy.hi
 have := w0o x.neg y.neg p q _ c _ d base x.e y.e x.m y.m w hp hq rfl rfl (by omega) (by omega) (by omega) (by omega) hT hb
 rw [show (⟨x.neg, x.m, x.e⟩ : Dv) = x from rfl, show (⟨y.neg, y.m, y.e⟩ : Dv) = y from rfl, a1e hx hy] at this
 exact this
theorem VrOk.sm {r : Vr} (R : VrOk r) : SmD r.x := ⟨by have := R.len; omega, by have := R.lo; omega, by have := R.hi; omega⟩
def two (a b : Vp) : List Vp := [a, b]
theorem q0t (n : Int) (w : World) : Calls Tryd.prog 74 #[.int .i64 n] w fun en w' => en = .returned (.tuple #[.agg #[.int .i64 (fmt n).g.rad, .int .i64 (fmt n).g.digs, .int .i64 (fmt n).g.lo, .int .i64 (fmt n).g.hi, .bool (fmt n).g.grad], .int .i64 (d0i n)]) ∧ Below w.heap.size w w' := by
 by_cases hn : IsFm n
 · have h0 : d0i n = 0 := by unfold d0i; rw [if_pos hn]
   rw [h0]
   have HF := fun W => hi0 (g0m n hn W)
   generalize fmt n = f at *
   have I := Inv.start w [] True.intro
   refine a0d [.v (.int .i64 n)] I Tryd.func74 ?_
   refine zq I (fun Al W I => (HF W).out) fun Al W I => ?_
   exact zrb I
 · have h0 : d0i n = 6 := by unfold d0i; rw [if_neg hn]
   rw [h0, s0k hn]
   have HF := fun W => hi0 (i0n n hn W)
   have I := Inv.start w [] True.intro
   refine a0d [.v (.int .i64 n)] I Tryd.func74 ?_
   refine zq I (fun Al W I => (HF W).out) fun Al W I => ?_
   exact zrb I
theorem u0e (n way : Int) (w : World) (h : ¬ (IsFm n ∧ 1 ≤ way ∧ way ≤ 5)) : Calls Tryd.prog 52 #[.int .i64 n, .int .i64 way] w fun en w' => en = .returned (.tuple #[.pointer none, .int .i64 6]) ∧ Below w.heap.size w w' := by
 have HG := fun W => hi0 (q0t n W)
 by_cases hn : IsFm n
 · have he : d0i n = 0 := by unfold d0i; rw [if_pos hn]
   have h' : way < 1 ∨ 5 < way := by by_cases k : 1 ≤ way ∧ way ≤ 5; exact absurd ⟨hn, k⟩ h; omega
   rw [he] at HG
   generalize fmt n = f at *
   have I := Inv.start w [] True.intro
   refine a0d [.v (.int .i64 n), .v (.int .i64 way)] I Tryd.func52 ?_
   refine zq I (fun Al W I => (HG W).out) fun Al W I => ?_
   by_cases h1 : way < 1
   · refine zb I 18 (decide (way < 1)) (true) (dTr h1) fun Al W I => ?_
     exact zrb I
   refine zb I 18 (decide (way < 1)) (false) (dFa h1) fun Al W I => ?_
   refine zb I 21 (decide (way > 5)) (true) (dTr (by omega)) fun Al W I => ?_
   exact zrb I
 · have he : d0i n = 6 := by unfold d0i; rw [if_neg hn]
   rw [he] at HG
   generalize fmt n = f at *
   have I := Inv.start w [] True.intro
   refine a0d [.v (.int .i64 n), .v (.int .i64 way)] I Tryd.func52 ?_
   refine zq I (fun Al W I => (HG W).out) fun Al W I => ?_
   exact zrb I
def l0x (f : Fm) (n way : Int) (w : World) (en : Ending) (w' : World) : Prop :=
 ∃ u, en = .returned (.tuple #[.pointer (some ⟨u, 0, none⟩), .int .i64 0]) ∧ w.heap.size ≤ u ∧ Bt w' u 153 #[.int .i64 n, .int .i64 way, .int .i64 f.g.rad, .int .i64 f.g.digs, .int .i64 f.g.lo, .int .i64 f.g.hi, .bool f.g.grad, .int .u8 (famB f), .int .i64 0] ∧ Below w.heap.size w w'
theorem z0q (n way : Int) (w : World) (hn : IsFm n) (hw : 1 ≤ way ∧ way ≤ 5) : Calls Tryd.prog 52 #[.int .i64 n, .int .i64 way] w (l0x (fmt n) n way w) := by
 have HG := fun W => hi0 (q0t n W)
 have he : d0i n = 0 := by unfold d0i; rw [if_pos hn]
 rw [he] at HG
 have G := c0e hn
 generalize fmt n = f at *
 have hrad := G.rad
 have hgr := G.grad
 by_cases f2 : f.fam = 2
 · have hBf : famB f = 66 := by unfold famB; rw [if_neg (by omega), if_pos f2]
   rw [if_pos f2] at hrad
   have I := Inv.start w [] True.intro
   refine a0d [.v (.int .i64 n), .v (.int .i64 way)] I Tryd.func52 ?_
   refine zq I (fun Al W I => (HG W).out) fun Al W I => ?_
   refine zb I 18 (decide (way < 1)) (false) (dFa (by omega)) fun Al W I => ?_
   refine zb I 21 (decide (way > 5)) (false) (dFa (by omega)) fun Al W I => ?_
   refine zb I 31 (f.g.rad == 16) (true) (beq_iff_eq.2 hrad) fun Al W I => ?_
   exact zret I (v := fun Al => .tuple #[.pointer (some ⟨(lk 0 Al 1), 0, none⟩), .int .i64 0]) fun Al W I => ⟨_, rfl, (I.geB 1), by rw [hBf]; exact (I.box 1 153 _), I.below⟩
 · rw [if_neg f2] at hrad
   by_cases f1 : f.fam = 1
   · have hBf : famB f = 65 := by unfold famB; rw [if_pos f1]
     rw [decide_eq_true f1] at hgr
     unfold l0x
     rw [hBf, hgr]
     simp only [hgr] at HG
     have I := Inv.start w [] True.intro
     refine a0d [.v (.int .i64 n), .v (.int .i64 way)] I Tryd.func52 ?_
     refine zq I (fun Al W I => (HG W).out) fun Al W I => ?_
     refine zb I 18 (decide (way < 1)) (false) (dFa (by omega)) fun Al W I => ?_
     refine zb I 21 (decide (way > 5)) (false) (dFa (by omega)) fun Al W I => ?_
     refine zb I 31 (f.g.rad == 16) (false) (bFn (by omega)) fun Al W I => ?_
     exact zret I fun Al W I => ⟨_, rfl, (I.geB 1), (I.box 1 153 _), I.below⟩
   · have hBf : famB f = 67 := by unfold famB; rw [if_neg f1, if_neg f2]
     rw [decide_eq_false f1] at hgr
     unfold l0x
     rw [hBf, hgr]
     simp only [hgr] at HG
     have I := Inv.start w [] True.intro
     refine a0d [.v (.int .i64 n), .v (.int .i64 way)] I Tryd.func52 ?_
     refine zq I (fun Al W I => (HG W).out) fun Al W I => ?_
     refine zb I 18 (decide (way < 1)) (false) (dFa (by omega)) fun Al W I => ?_
     refine zb I 21 (decide (way > 5)) (false) (dFa (by omega)) fun Al W I => ?_
     refine zb I 31 (f.g.rad == 16) (false) (bFn (by omega)) fun Al W I => ?_
     exact zret I fun Al W I => ⟨_, rfl, (I.geB 1), (I.box 1 153 _), I.below⟩
theorem i1g (n way fl : Int) (a : Vp) (r : Vr) (base u : Nat) (w : World) (U : Bt w u 153 #[.int .i64 n, .int .i64 way, .int .i64 (fmt n).g.rad, .int .i64 (fmt n).g.digs, .int .i64 (fmt n).g.lo, .int .i64 (fmt n).g.hi, .bool (fmt n).g.grad, .int .u8 (famB (fmt n)), .int .i64 fl]) (oa : Own w base .u32 76 a.p a.c (dig B32 a.v.d)) (hn : IsFm n) (V : VRep (fmt n) a.v r) (R : ResF (fmt n) r) (hT : TabW w) :
 Calls Tryd.prog 90 #[.pointer (some ⟨u, 0, none⟩), .agg #[.int .i64 (a.v.cls : Int), .bool a.v.neg, .slice a.p (dig B32 a.v.d).length a.c, .int .i64 a.v.pow]] w fun en w' => en = .returned (.tuple #[.string (b0p ((fmt n).strP ((fmt n).encP r.cls r.neg r.x))), .int .i64 fl, .int .i64 0]) ∧ Below w.heap.size w w' := by
 have HE := fun W (h1 : Own W base .u32 76 a.p a.c (dig B32 a.v.d)) h2 => hi0 (v0k n (a.v.cls : Int) (dinV a.v a.p a.c) W (f1q h1 V.len) h2)
 obtain ⟨e1, e2⟩ := i1d R V a.p a.c
 unfold s0m q0l at HE
 rw [if_pos hn, e1, e2] at HE
 simp only [if_true] at HE
 have HE2 : ∀ W, Own W base .u32 76 a.p a.c (dig B32 a.v.d) → TabW W → Hid (Calls Tryd.prog 26 #[.int .i64 n, .agg #[.int .i64 (a.v.cls : Int), .bool a.v.neg, .slice a.p (dig B32 a.v.d).length a.c, .int .i64 a.v.pow]] W fun en w' => en = .returned (.tuple #[.string (b0p ((fmt n).strP ((fmt n).encP r.cls r.neg r.x))), .int .i64 0]) ∧ Below W.heap.size W w') := HE
 clear HE e1 e2 V R
 generalize b0p ((fmt n).strP ((fmt n).encP r.cls r.neg r.x)) = s at *
 generalize fmt n = f at *
 have I := Inv.startR w [u] [⟨153, (uS f n way fl), true⟩] [ownF base .u32 76 a.p a.c (dig B32 a.v.d), tabF] ⟨U, True.intro⟩ ⟨oa, hT, True.intro⟩
 refine a0d [.p 0 0, .v (.agg #[.int .i64 (a.v.cls : Int), .bool a.v.neg, .slice a.p (dig B32 a.v.d).length a.c, .int .i64 a.v.pow])] I Tryd.func90 ?_
 refine zd [] I fun Al W I => ?_
 refine zk [0, 1, 2, 3, 4] I fun I => ?_
 refine zo 5 I fun I => ?_
 refine zq I (fun Al W I => (HE2 W I.fa.1 I.fa.2.1).out) fun Al W I => ?_
 refine zk [6, 7, 8, 9, 10] I fun I => ?_
 refine zd [] I fun Al W I => ?_
 refine zk [0, 1, 2, 3, 4, 5, 6, 7] I fun I => ?_
 exact zrb I
end Go.Proofs.YtmacohmclpnphaaDoor
namespace Go.Slip
open Go.RowKit
end Go.Slip
namespace Go.Proofs.YtmacohmclpnphaaDoor
open Go.RowKit Go.Slip
def errL (n : Int) : List ByteArray → Int
 | [] => 0
 | s :: r => if b0x n s = 0 then errL n r else b0x n s
def errR (n way : Int) (L : List ByteArray) : Int := if IsFm n then (if errL n L = 0 then (if 1 ≤ way ∧ way ≤ 5 then 0 else 6) else errL n L) else 6
def strR (n : Int) (r : Vr) : ByteArray := b0p ((fmt n).strP ((fmt n).encP r.cls r.neg r.x))
structure VrF (f : Fm) (r : Vr) : Prop where
 ok : VrOk r
 inf : r.cls = 3 → f.fam = 1
def refD (n : Int) (s : ByteArray) : Vr := (fmt n).refN (a0s (fmt n) s)
theorem i1h {f : Fm} (G : c0g f) (neg : Bool) {e frac : Nat} (h : e < 2 ^ f.E) : (f.dec neg e frac).p = 0 ∨ (f.g.lo ≤ (f.dec neg e frac).p ∧ (f.dec neg e frac).p ≤ f.g.hi + 1) := by
 have h3 := G.hi1
 have h4 := G.hi2
 have h5 := G.hi3
 have h6 := G.fam
 have gg := (b0h G.g).le
 have e1 := G.e1
 have hE1 : (2 : Nat) ^ 7 ≤ 2 ^ f.E := Nat.pow_le_pow_right (by omega) e1
 unfold Fm.dec
 generalize 2 ^ f.E = T at *
 repeat' split
 all_goals first | exact .inl rfl | (right; simp only; omega)
theorem f1s {f : Fm} (neg : Bool) {e frac : Nat} (h : (f.dec neg e frac).c = 3) : f.fam = 1 := by
 have h : (f.dec neg e frac).cls = 3 := by
  unfold Dc.c at h
  split at h <;> omega
 unfold Fm.dec at h
 split at h
 · simp at h
 · split at h
   · rename_i k
     exact k.1
   · split at h
     · split at h <;> simp at h
     · split at h
       · simp at h
       · split at h
         · simp at h
         · split at h <;> simp at h
theorem z0r {n : Int} {s : ByteArray} (hn : IsFm n) : VrF (fmt n) (refD n s) := by
 have G := c0e hn
 have GG := b0h G.g
 obtain ⟨w1, w2, w3⟩ := m0t G.g
 have he : (fmt n).exp (a0s (fmt n) s) < 2 ^ (fmt n).E := Nat.mod_lt _ (Nat.pow_pos (by omega))
 have hx : (fmt n).frac (a0s (fmt n) s) < 2 ^ (fmt n).F := Nat.mod_lt _ (Nat.pow_pos (by omega))
 have hm := e1v (f := fmt n) ((fmt n).neg (a0s (fmt n) s)) (e := (fmt n).exp (a0s (fmt n) s)) hx
 have hp := i1h G ((fmt n).neg (a0s (fmt n) s)) (frac := (fmt n).frac (a0s (fmt n) s)) he
 have hi := fun h => f1s (f := fmt n) ((fmt n).neg (a0s (fmt n) s)) (e := (fmt n).exp (a0s (fmt n) s)) (frac := (fmt n).frac (a0s (fmt n) s)) h
 have hcls := y0k (fmt n) ((fmt n).neg (a0s (fmt n) s)) ((fmt n).exp (a0s (fmt n) s)) ((fmt n).frac (a0s (fmt n) s))
 have z2 := G.f2
 unfold refD Fm.refN Fm.decN
 generalize (fmt n).dec ((fmt n).neg (a0s (fmt n) s)) ((fmt n).exp (a0s (fmt n) s)) ((fmt n).frac (a0s (fmt n) s)) = D at *
 generalize (fmt n).neg (a0s (fmt n) s) = g at *
 generalize fmt n = f at *
 have hc : 1 ≤ D.c ∧ D.c ≤ 5 := by unfold Dc.c; split <;> omega
 have hml : (dig B32 D.m).length ≤ 3 := a0q hm (by omega)
 have wp := b0d f.g
 have hwp : -17010 ≤ (wid f.g : Int) * D.p ∧ (wid f.g : Int) * D.p ≤ 17010 := by
  rcases hp with h | ⟨h1, h2⟩
  · rw [h, Int.mul_zero]; omega
  · have a1 : (wid f.g : Int) * f.g.lo ≤ wid f.g * D.p := Int.mul_le_mul_of_nonneg_left h1 (by omega)
    have a2 : (wid f.g : Int) * D.p ≤ wid f.g * (f.g.hi + 1) := Int.mul_le_mul_of_nonneg_left h2 (by omega)
    rw [Int.mul_add, Int.mul_one] at a2
    omega
 refine ⟨⟨hc, fun h => ?_, fun h => ?_, ?_, ?_, ?_, ?_⟩, hi⟩
 · have h : ¬ D.c = 2 := h
   unfold Fm.vr
   simp only [if_neg h]
   rfl
 · have h : D.c = 2 := h
   have hm0 := d1i h
   unfold Fm.vr
   simp only [h, if_true]
   obtain ⟨b1, b2⟩ := o0w (g := g) (e := (wid f.g : Int) * D.p) hm0
   exact ⟨b2, by rw [b1]; rfl⟩
 · unfold Fm.vr
   simp only
   split
   · exact d0f _
   · exact .inr rfl
 · unfold Fm.vr
   simp only
   split
   · exact Nat.le_trans (g0t a0a _) (by show (dig B32 D.m).length ≤ _; omega)
   · show (dig B32 0).length ≤ _; rw [a0b]; decide
 · unfold Fm.vr
   simp only
   split
   · have := m0k (⟨g, D.m, wid f.g * D.p⟩ : Dv) (n := 3) hml (lo := -17100) (hi := 17100) (by simp only; omega) (by simp only; omega) (by omega) (by omega)
     omega
   · show (-18000 : Int) ≤ 0; decide
 · unfold Fm.vr
   simp only
   split
   · have := m0k (⟨g, D.m, wid f.g * D.p⟩ : Dv) (n := 3) hml (lo := -17100) (hi := 17100) (by simp only; omega) (by simp only; omega) (by omega) (by omega)
     omega
   · show (0 : Int) ≤ 18000; decide
theorem c1k {n : Int} {s : ByteArray} (h0 : b0x n s = 0) : VRep (fmt n) (decP n s) (refD n s) := by
 obtain ⟨hn, hs⟩ := c0y.1 h0
 have G := c0e hn
 have hd : decP n s = (fmt n).valN (a0s (fmt n) s) := by unfold decP; rw [if_pos h0]
 have he : (fmt n).exp (a0s (fmt n) s) < 2 ^ (fmt n).E := Nat.mod_lt _ (Nat.pow_pos (by omega))
 have hx : (fmt n).frac (a0s (fmt n) s) < 2 ^ (fmt n).F := Nat.mod_lt _ (Nat.pow_pos (by omega))
 have hb := i1z G ((fmt n).neg (a0s (fmt n) s)) he hx ((fmt n).neg (a0s (fmt n) s))
 have hk := b1v (fmt n) ((fmt n).neg (a0s (fmt n) s)) ((fmt n).decN (a0s (fmt n) s))
 have ho := b1x (fmt n) ((fmt n).neg (a0s (fmt n) s)) ((fmt n).decN (a0s (fmt n) s))
 rw [hd]
 exact ⟨rfl, rfl, fun _ => hk, fun h => ho h, hb.1, hb.2.1, hb.2.2⟩
/-! ### Results -/
theorem d1m {f : Fm} (G : c0g f) (x : Dv) (way : Int) : ResF f (f.numM x way).1 := by
 unfold Fm.numM
 split
 · exact s0o G _
 · exact (n0c G (by omega)).1
def _root_.Go.Slip.Vr.opp (r : Vr) : Vr := if r.cls ≤ 3 then ⟨r.cls, !r.neg, d0a r.x⟩ else r
theorem f1t {f : Fm} (G : c0g f) {r : Vr} (R : ResF f r) : CanF f r.cls r.neg r.x :=
 ⟨R.c, R.c1, fun h => ⟨z0d G (R.c2 h).1 (R.c2 h).2.2.1, (R.c2 h).2.1, (R.c2 h).2.2.1, (R.c2 h).2.2.2⟩, R.c3, R.c4, R.c5⟩
theorem c1l {n : Int} (hn : IsFm n) {r : Vr} (R : ResF (fmt n) r) : b0x n (strR n r) = 0 ∧ refD n (strR n r) = r := by
 have G := c0e hn
 have C := f1t G R
 have hlt := f1f G (cls := r.cls) (g := r.neg) (d := r.x) (fun h => (C.c2 h).1)
 have hs : (strR n r).size = (fmt n).size := by unfold strR; rw [u0j]; exact e1w _ _ _ _
 refine ⟨c0y.2 ⟨hn, hs⟩, ?_⟩
 have hv := f1h G C
 obtain ⟨q1, q2, q3⟩ := y0l (f := fmt n) (neg := ((fmt n).encP r.cls r.neg r.x).neg) hlt.1 hlt.2
 unfold refD Fm.refN Fm.decN strR Fm.strP
 rw [s0n G hlt.1 hlt.2, q1, q2, q3, hv]
 by_cases h2 : r.cls = 2
 · rw [if_pos h2]
 · rw [if_neg h2, show (⟨false, 0, 0⟩ : Dv) = r.x from (R.x0 h2).symm]
def outS (n way : Int) (L : List ByteArray) (R : Vr × Nat) : ByteArray := if errR n way L = 0 then strR n R.1 else b0p []
def outF (n way : Int) (L : List ByteArray) (R : Vr × Nat) : Nat := if errR n way L = 0 then R.2 else 0
def o0x (n way : Int) (L : List ByteArray) (R : Vr × Nat) (w : World) (en : Ending) (w' : World) : Prop :=
 (if errR n way L = 0 then en = .returned (.tuple #[.string (strR n R.1), .int .i64 ((R.2 : Nat) : Int), .int .i64 (errR n way L)]) else en = .returned (.tuple #[.string (b0p []), .int .i64 0, .int .i64 (errR n way L)])) ∧ Below w.heap.size w w'
theorem f1u {n way : Int} {L : List ByteArray} {R : Vr × Nat} {w : World} {fn : FuncId} {args : Array Value} (h : Calls Tryd.prog fn args w (o0x n way L R w)) :
 Calls Tryd.prog fn args w fun en w' => en = .returned (.tuple #[.string (outS n way L R), .int .i64 ((outF n way L R : Nat) : Int), .int .i64 (errR n way L)]) ∧ Below w.heap.size w w' := by
 refine h.mono fun en w' hh => ⟨?_, hh.2⟩
 unfold outS outF
 have := hh.1
 by_cases h0 : errR n way L = 0
 · rw [if_pos h0] at this ⊢; rw [if_pos h0]; exact this
 · rw [if_neg h0] at this ⊢; rw [if_neg h0]; exact this
end Go.Proofs.YtmacohmclpnphaaDoor
namespace Go.Slip
theorem j1g (n : Int) : bits .and .i64 n 4611686018427387903 = n % 4611686018427387904 := by
 have h1 : (BitVec.ofInt 64 4611686018427387903).toNat = 2 ^ 62 - 1 := by decide
 have h2 : (BitVec.ofInt 64 n).toNat = (n % 18446744073709551616).toNat := by rw [BitVec.toNat_ofInt]; rfl
 have key : (BitVec.ofInt 64 n &&& BitVec.ofInt 64 4611686018427387903).toNat = (n % 4611686018427387904).toNat := by
  rw [BitVec.toNat_and, h2, h1, Nat.and_two_pow_sub_one_eq_mod]
  omega
 show IntKind.i64.wrap ((BitVec.ofInt 64 n &&& BitVec.ofInt 64 4611686018427387903).toNat : Nat) = _
 rw [key, Int.toNat_of_nonneg (by omega)]
 exact iwo
def intD (n : Int) : Dv := norm n 0
theorem o0y (m : Nat) (e : Int) : bare ⟨false, m, e⟩ = norm (m : Int) e := (j0f false m e).symm
theorem n0d (a b : Int) (j k : Nat) : f0w (norm a j) (norm b k) = norm (a * 2 ^ j + b * 2 ^ k) 0 := by
 have h : ∀ (c : Int) (i : Nat), (0 : Int) ≤ (norm c i).e ∧ zOf (norm c i) 0 = c * 2 ^ i := fun c i => by
  have e : norm c (i : Int) = norm (c * 2 ^ i) 0 := by rw [m0l]; congr 1; omega
  rw [e]
  exact ⟨g1l _ (Int.le_refl 0), o0v _ _⟩
 rw [m0m _ _ (h a j).1 (h b k).1, (h a j).2, (h b k).2]
end Go.Slip
namespace Go.Proofs.YtmacohmclpnphaaDoor
open Go.RowKit Go.Slip
theorem c1m (n : Int) (v : Vl) (r : Vr) (p : Option Addr) (c b0 : Nat) (w : World) (hn : IsFm n) (hp : Own w b0 .u32 76 p c (dig B32 v.d)) (V : VRep (fmt n) v r) (R : VrOk r) (hT : TabW w) :
 Calls Tryd.prog 92 #[.int .i64 n, .agg #[.int .i64 (v.cls : Int), .bool v.neg, .slice p (dig B32 v.d).length c, .int .i64 v.pow]] w (f0h w w.heap.size r.x) := by
 have HG := fun W => hi0 (i0r n W)
 have h0 : d0i n = 0 := by unfold d0i; rw [if_pos hn]
 rw [h0] at HG
 generalize fmt n = f at *
 have hx : bare ⟨v.neg, v.d, wid f.g * v.pow⟩ = r.x := by
  by_cases h2 : r.cls = 2
  · exact V.num h2
  · rw [R.x0 h2, (V.oth h2).1]; rfl
 have hl := V.len
 have hlo := V.lo
 have hhi := V.hi
 have wp := b0d f.g
 have hmu := g0a (wd := wid f.g) (k := v.pow) (B := 20000) wp.2 ⟨hlo, hhi⟩
 rw [← hx, ← q0k]
 clear hx R V h0
 have hwd : wid f.g = if f.g.rad = 16 then 4 else 1 := rfl
 generalize hmw : (wid f.g : Int) * v.pow = mw at *
 have HMW := hi0 hmw
 have HH := fun W (c : Nat) h1 h0 h2 => hi0 (e0p p _ c mw v.d W h1 rfl h0 (by omega) (by omega) h2)
 clear hmw
 generalize bare ⟨false, v.d, mw⟩ = d at *
 obtain ⟨rb, hrb⟩ : ∃ b, (f.g.rad == 16) = b := ⟨_, rfl⟩
 have HRB := hi0 hrb
 have h4 : rb = true → (4 : Int) = ((wid f.g : Nat) : Int) := fun h => by rw [h] at hrb; rw [hwd, if_pos (beq_iff_eq.1 hrb)]; rfl
 have h1 : rb = false → (1 : Int) = ((wid f.g : Nat) : Int) := fun h => by rw [h] at hrb; rw [hwd, if_neg (bnF hrb)]; rfl
 clear hrb hwd
 have I := Inv.start w [ownF b0 .u32 76 p c (dig B32 v.d), tabF] ⟨hp, hT, True.intro⟩
 refine a0d [.v (.int .i64 n), .v (.agg #[.int .i64 (v.cls : Int), .bool v.neg, .slice p (dig B32 v.d).length c, .int .i64 v.pow])] I Tryd.func92 ?_
 refine zq I (fun Al W I => (HG W).out) fun Al W I => ?_
 refine zb I 16 (f.g.rad == 16) (rb) (HRB.out) fun Al W I => ?_
 refine zcut I (some 2000016) (fun fr bx gs => ∃ (U1 : Nat → Value) (k1 : Int), fr = (.v (.int .i64 n) :: .v (.agg #[.int .i64 (v.cls : Int), .bool v.neg, .slice p (dig B32 v.d).length c, .int .i64 v.pow]) :: .v undef :: .p 0 0 :: .p 1 0 :: .p 2 0 :: .v (U1 6) :: .v (.int .i64 k1) :: .v undef :: sw U1 9 7 (.v (.bool rb) :: sw U1 17 8 (.v undef :: sw U1 26 3 [])) : List SV) ∧ bx = [⟨29, [.v (.int .i64 (v.cls : Int)), .v (.bool v.neg), .v (.slice p (dig B32 v.d).length c), .v (.int .i64 v.pow)], false⟩, ⟨87, [.v (.bool false), .v (.slice none 0 0), .v (.int .i64 0)], false⟩, ⟨51, [.v (.int .i64 f.g.rad), .v (.int .i64 f.g.digs), .v (.int .i64 f.g.lo), .v (.int .i64 f.g.hi), .v (.bool f.g.grad)], false⟩] ∧ gs = [ownF b0 .u32 76 p c (dig B32 v.d), tabF] ∧ (k1 = ((wid f.g : Nat) : Int))) ?_ ?_
 · intro J hJ Al W I
   rcases Bool.eq_false_or_eq_true rb with rfl | rfl
   · exact a0m I J fun Al W U I => hJ _ _ _ _ _ ⟨U, 4, rfl, rfl, rfl, h4 rfl⟩ (I.pick [0, 1])
   exact a0m I J fun Al W U I => hJ _ _ _ _ _ ⟨U, 1, rfl, rfl, rfl, h1 rfl⟩ (I.pick [0, 1])
 rintro _ _ _ ⟨U1, k1, rfl, rfl, rfl, hk1⟩ Al W I
 refine zi I 22 .i64 (k1 * v.pow) (mw) ((by rw [hk1, HMW.out]; exact iwo)) fun Al W I => ?_
 refine zqo I (fun Al W I => (HH W c I.fa.1.rd I.fa.1.le_cap I.fa.2.1).out) fun Al W p23 c23 I => ?_
 by_cases ng : v.neg = true
 · refine zb I 25 (v.neg) (true) (ng) fun Al W I => ?_
   refine zq I (fun Al W I => s0c d.neg p23 _ c23 d.e d.m W rfl) fun Al W I => ?_
   rw [if_pos ng]
   exact zret I fun Al W I => ⟨p23, c23, rfl, I.fa.1.mono (by omega), I.below⟩
 refine zb I 25 (v.neg) (false) ((by simpa using ng)) fun Al W I => ?_
 rw [if_neg ng]
 exact zret I fun Al W I => ⟨p23, c23, rfl, I.fa.1.mono (by omega), I.below⟩
end Go.Proofs.YtmacohmclpnphaaDoor
namespace Go.Slip
theorem s0p (z e : Int) : d0a (norm z e) = norm (-z) e := by
 by_cases h : z = 0
 · subst h; rfl
 · have h1 : (bare (ofZ z e)).m ≠ 0 := m0s h e
   unfold norm at *
   unfold ofZ bare at *
   simp only at h1 ⊢
   rw [if_neg (by omega)] at h1
   rw [if_neg (by omega), if_neg (by omega)]
   unfold d0a
   simp only at h1 ⊢
   rw [Int.natAbs_neg, decide_eq_true (Nat.pos_of_ne_zero h1), Bool.and_true]
   simp only [Dv.mk.injEq, and_true]
   by_cases k : z < 0
   · rw [decide_eq_true k, decide_eq_false (by omega)]; rfl
   · rw [decide_eq_false k, decide_eq_true (by omega)]; rfl
def RepG (g : Gd) (z : Nat) (k : Int) : Prop := 0 < z ∧ z < 2 ^ (wid g * g.digs.toNat) ∧ (g.lo < k ∨ g.grad = false → 2 ^ (wid g * (g.digs.toNat - 1)) ≤ z) ∧ g.lo ≤ k
theorem RepG.stepK {g : Gd} (G : g0k g) {z : Nat} {k : Int} (h : RepG g z k) {s : Int} (hs : s.natAbs = z) : stepK (norm s (wid g * k)) g = k := by
 obtain ⟨h1, h2, h3, h4⟩ := h
 refine c1g G (by omega) (by omega) h4 ?_
 rcases Int.lt_or_le g.lo k with h | h
 · left; rw [hs]; exact h3 (.inl h)
 · right; omega
end Go.Slip
namespace Go.Proofs.YtmacohmclpnphaaDoor
open Go.RowKit Go.Slip
theorem f1v {n : Int} (h : -9223372036854775808 ≤ n ∧ n ≤ 9223372036854775807) : (dig B32 (intD n).m).length ≤ 2 ∧ -100 ≤ (intD n).e ∧ (intD n).e ≤ 100 ∧ Bare (intD n) := by
 have hl : (dig B32 n.natAbs).length ≤ 2 := (a0e a0a _ 2).2 (by unfold B32; omega)
 have h1 := g0t a0a ⟨decide (n < 0), n.natAbs, 0⟩
 have h2 := m0k ⟨decide (n < 0), n.natAbs, 0⟩ (n := 2) hl (lo := -1) (hi := 1) (by simp only; omega) (by simp only; omega) (by omega) (by omega)
 have h3 := d0f ⟨decide (n < 0), n.natAbs, 0⟩
 have e : intD n = bare ⟨decide (n < 0), n.natAbs, 0⟩ := rfl
 rw [← e] at h1 h2 h3
 simp only at h1
 exact ⟨by omega, by omega, by omega, h3⟩
theorem g0p {m : Nat} {e : Int} (h : m < 18446744073709551616) (he : 0 ≤ e ∧ e ≤ 62) : SmD (norm (m : Int) e) ∧ Bare (norm (m : Int) e) := by
 have hl : (dig B32 m).length ≤ 2 := (a0e a0a _ 2).2 (by unfold B32; omega)
 have h1 := g0t a0a ⟨false, m, e⟩
 have h2 := m0k ⟨false, m, e⟩ (n := 2) hl (lo := -1) (hi := 100) (by simp only; omega) (by simp only; omega) (by omega) (by omega)
 rw [o0y] at h1 h2
 simp only at h1
 exact ⟨⟨by omega, by omega, by omega⟩, by rw [← o0y]; exact d0f _⟩
theorem s0q (n fm way : Int) (w : World) (hr : -9223372036854775808 ≤ n ∧ n ≤ 9223372036854775807) (hT : TabW w) :
 Calls Tryd.prog 80 #[.int .i64 n, .int .i64 fm, .int .i64 way] w (o0x fm way [] ((fmt fm).numM (intD n) way) w) := by
 unfold o0x
 by_cases hok : IsFm fm ∧ 1 ≤ way ∧ way ≤ 5
 · obtain ⟨hn, hw⟩ := hok
   have h0 : errR fm way [] = 0 := by unfold errR; rw [if_pos hn, if_pos (show errL fm [] = 0 from rfl), if_pos hw]
   simp only [h0, if_true]
   have HO := fun W => hi0 (z0q fm way W hn hw)
   have RS : ResF (fmt fm) ((fmt fm).numM (intD n) way).1 := d1m (c0e hn) _ _
   obtain ⟨b1, b2, b3, b4⟩ := f1v hr
   have HNU := fun (x : Dv) (hx : x = intD n) W p c u (h1 : Bt W u 153 #[.int .i64 fm, .int .i64 way, .int .i64 (fmt fm).g.rad, .int .i64 (fmt fm).g.digs, .int .i64 (fmt fm).g.lo, .int .i64 (fmt fm).g.hi, .bool (fmt fm).g.grad, .int .u8 (famB (fmt fm)), .int .i64 0]) (h2 : Rd W .u32 p (dig B32 x.m)) => hi0 (show Calls Tryd.prog 115 #[.pointer (some ⟨u, 0, none⟩), .agg #[.bool x.neg, .slice p (dig B32 x.m).length c, .int .i64 x.e]] W (j0w (fmt fm) fm way u W W.heap.size ((fmt fm).numM (intD n) way)) from by
     subst hx; exact c1j (fmt fm) fm way _ p c u W h1 h2 (by omega) (by omega) (c0e hn) hw)
   obtain ⟨rS, flS, hS⟩ : ∃ rS flS, (fmt fm).numM (intD n) way = (rS, flS) := ⟨_, _, rfl⟩
   rw [hS] at HNU RS ⊢
   have HTL := fun W (v : Vl) p c b u h1 h2 h3 h4 => hi0 (i1g fm way (flS : Int) ⟨v, p, c⟩ rS b u W h1 h2 hn h3 RS h4)
   rw [show b0p ((fmt fm).strP ((fmt fm).encP rS.cls rS.neg rS.x)) = strR fm rS from rfl] at HTL
   clear hS RS h0
   generalize strR fm rS = str at *
   generalize fmt fm = f at *
   -- the lower bits
   obtain ⟨N1, hN1⟩ : ∃ N1 : Nat, (N1 : Int) = n % 4611686018427387904 := ⟨(n % 4611686018427387904).toNat, by omega⟩
   have HW := fun (m : Nat) (e : Int) (hm : m < 18446744073709551616) (he : 0 ≤ e ∧ e ≤ 62) W p c h1 h2 h3 => hi0 ((o0y m e) ▸ e0p p _ c e m W h1 rfl h2 (by have : (dig B32 m).length ≤ 2 := (a0e a0a _ 2).2 (by unfold B32; omega); omega) (by omega) h3)
   have HPL := fun (m k : Nat) (e : Int) (hm : m < 18446744073709551616) (hk : k < 18446744073709551616) (he : 0 ≤ e ∧ e ≤ 62) W p q c d b h1 h2 h3 h4 => hi0 (q0s (norm (m : Int) e) (norm (k : Int) 0) p q c d b W (g0p hm he).2 (g0p hk (by omega)).2 (g0p hm he).1 (g0p hk (by omega)).1 h1 h2 h3 h4)
   have HPR := fun (m k : Nat) (hm : m < 18446744073709551616) (hk : k < 18446744073709551616) W p q c d b h1 h2 h3 h4 => hi0 (q0s (norm (m : Int) 0) (norm (k : Int) 62) p q c d b W (g0p hm (by omega)).2 (g0p hk (by omega)).2 (g0p hm (by omega)).1 (g0p hk (by omega)).1 h1 h2 h3 h4)
   have hI : ∀ z : Int, norm z 0 = intD z := fun _ => rfl
   have eP : ∀ m : Nat, (m : Int) < 4611686018427387904 → (m : Int) = n → norm (m : Int) 0 = intD n := fun m _ h => by rw [h]; rfl
   have e2 : ∀ a b : Nat, (a : Int) * 2 + b = -n → d0a (f0w (norm (a : Int) 1) (norm (b : Int) 0)) = intD n := fun a b h => by
    have := n0d a b 1 0
    simp only [Int.natCast_one, Int.natCast_zero, Int.pow_succ, Int.pow_zero, Int.one_mul, Int.mul_one] at this
    rw [this, s0p, h, Int.neg_neg]
    rfl
   have e3 : ∀ m : Nat, (m : Int) + 4611686018427387904 = n → f0w (norm (m : Int) 0) (norm ((1 : Nat) : Int) 62) = intD n := fun m h => by
    have := n0d m 1 0 62
    simp only [Int.natCast_zero, Int.pow_zero, Int.mul_one] at this
    rw [show ((1 : Nat) : Int) = 1 from rfl, show (62 : Int) = ((62 : Nat) : Int) from rfl, this, show (m : Int) + 1 * 2 ^ 62 = n by omega]
    rfl
   have hN2 : (N1 : Int) < 4611686018427387904 ∧ 0 ≤ (N1 : Int) := by omega
   have HAND := hi0 ((j1g n).trans hN1.symm)
   have td : n < 0 → n.tdiv 2 = -((-n) / 2) ∧ n.tmod 2 = -((-n) % 2) := fun h => by
    have a1 := Int.neg_tdiv (-n) 2
    have a2 := Int.neg_tmod (-n) 2
    rw [Int.neg_neg] at a1 a2
    rw [a1, a2, Int.tdiv_eq_ediv_of_nonneg (by omega), Int.tmod_eq_emod_of_nonneg (by omega)]
    exact ⟨rfl, rfl⟩
   obtain ⟨qa, hqa⟩ : ∃ qa : Nat, n < 0 → (qa : Int) = -(n.tdiv 2) := ⟨(-(n.tdiv 2)).toNat, fun h => by have := td h; omega⟩
   obtain ⟨qb, hqb⟩ : ∃ qb : Nat, n < 0 → (qb : Int) = -(n.tmod 2) := ⟨(-(n.tmod 2)).toNat, fun h => by have := td h; omega⟩
   have hq3 : n < 0 → (qa : Int) * 2 + qb = -n := fun h => by have := hqa h; have := hqb h; have := td h; omega
   have I := Inv.start w [tabF] ⟨hT, True.intro⟩
   refine a0d [.v (.int .i64 n), .v (.int .i64 fm), .v (.int .i64 way)] I Tryd.func80 ?_
   refine zg I (fun Al W I => (HO W).out) fun Al V Iv _ hB _ kz => ?_
   rintro _ W ⟨u15, rfl, hge, hB, hb⟩
   refine ⟨_, rfl, kz _ _ hb fun I => ?_⟩
   refine i1v Iv hb 0 u15 153 [(.int .i64 fm), (.int .i64 way), (.int .i64 f.g.rad), (.int .i64 f.g.digs), (.int .i64 f.g.lo), (.int .i64 f.g.hi), (.bool f.g.grad), (.int .u8 (famB f)), (.int .i64 0)] hge hB fun Al hAl_15 I => ?_
   refine i1w I 16 0 u15 hAl_15 fun Al W I => ?_
   refine zbin I 22 _ (fun _ _ _ _ _ => x0t .i64 (n) (4611686018427387903) ((N1 : Int)) ((HAND.out))) fun Al W I => ?_
   refine zqo I (fun Al W I => have hzW := I.bel.size; sof (N1 : Int) N1 rfl (by omega) W) fun Al W p23 c23 I => ?_
   refine zqo I (fun Al W I => have hzW := I.bel.size; (HW N1 0 (by omega) (by omega) W p23 c23 I.fa.1.rd I.fa.1.le_cap I.fa.2.1).out) fun Al W p24 c24 I => ?_
   by_cases hneg : n < 0
   · refine zb I 26 (decide (n < 0)) (true) (dTr hneg) fun Al W I => ?_
     refine zbin I 28 _ (fun _ _ _ _ _ => r0z .i64 (n) (2) ((n.tdiv 2)) (by omega) ((by exact IntWalk.i64_in _ (by have := td hneg; omega)))) fun Al W I => ?_
     refine zi I 29 .i64 (0 - (n.tdiv 2)) (-(n.tdiv 2)) ((iwo).trans (by omega)) fun Al W I => ?_
     refine zqo I (fun Al W I => have hzW := I.bel.size; sof _ qa (by first | exact (hqa hneg).symm | omega) (by have := hqa hneg; have := td hneg; omega) W) fun Al W p30 c30 I => ?_
     refine zqo I (fun Al W I => have hzW := I.bel.size; (HW qa 1 (by have := hqa hneg; have := td hneg; omega) (by omega) W p30 c30 I.fa.1.rd I.fa.1.le_cap I.fa.2.2.2.1).out) fun Al W p31 c31 I => ?_
     refine zbin I 33 _ (fun _ _ _ _ _ => x0s .i64 (n) (2) ((n.tmod 2)) (by omega) (rfl)) fun Al W I => ?_
     refine zi I 34 .i64 (0 - (n.tmod 2)) (-(n.tmod 2)) ((iwo).trans (by omega)) fun Al W I => ?_
     refine zqo I (fun Al W I => have hzW := I.bel.size; sof _ qb (by first | exact (hqb hneg).symm | omega) (by have := hqb hneg; have := td hneg; omega) W) fun Al W p35 c35 I => ?_
     refine zqo I (fun Al W I => have hzW := I.bel.size; (HW qb 0 (by have := hqb hneg; have := td hneg; omega) (by omega) W p35 c35 I.fa.1.rd I.fa.1.le_cap I.fa.2.2.2.2.2.1).out) fun Al W p36 c36 I => ?_
     refine zqo I (fun Al W I => have hzW := I.bel.size; (HPL qa qb 1 (by have := hqa hneg; have := td hneg; omega) (by have := hqb hneg; have := td hneg; omega) (by omega) W p31 p36 c31 c36 _ I.fa.2.2.1 I.fa.1 I.fa.2.2.2.2.2.2.1 I.bel.size).out) fun Al W p37 c37 I => ?_
     refine zq I (fun Al W I => s0c (f0w (norm (qa : Int) 1) (norm (qb : Int) 0)).neg p37 _ c37 (f0w (norm (qa : Int) 1) (norm (qb : Int) 0)).e (f0w (norm (qa : Int) 1) (norm (qb : Int) 0)).m W rfl) fun Al W I => ?_
     refine zge I 0 153 (fun Al W I => (HNU _ (e2 qa qb (hq3 hneg)) W p37 c37 _ (I.box 0 153 _) I.fa.1.rd).out) fun Al V Iv _ _ kz => ?_
     rintro _ W ⟨v48, hR48, p48, c48, rfl, o48, hO, hB⟩
     refine ⟨_, rfl, kz _ (uS f fm way (flS : Int)) _ hO hB fun I => ?_⟩
     have I := I.own o48
     refine zq I (fun Al W I => (HTL W v48 p48 c48 _ _ (I.box 0 153 _) I.fa.1 hR48 I.fa.2.2.2.2.2.2.2.2.1).out) fun Al W I => ?_
     exact zrb I
   refine zb I 26 (decide (n < 0)) (false) (dFa hneg) fun Al W I => ?_
   by_cases hbig : n ≥ 4611686018427387904
   · refine zb I 40 (decide (n ≥ 4611686018427387904)) (true) (dTr hbig) fun Al W I => ?_
     refine zcut I none (fun fr bx gs => ∃ (U1 : Nat → Value) (p44 : Option Addr) (c44 : Nat), fr = (.v (.int .i64 n) :: .v (.int .i64 fm) :: .v (.int .i64 way) :: su 3 (.v (Go.Value.string (ByteArray.mk #[])) :: .v (.int .i64 0) :: .v (.int .i64 0) :: .p 0 0 :: .v (.int .i64 0) :: .p 1 0 :: sw U1 12 7 (.v (.bool false) :: sw U1 20 6 (.v (.bool false) :: sw U1 27 13 (.v (.bool true) :: sw U1 41 12 [])))) : List SV) ∧ bx = [⟨153, (uS f fm way 0), false⟩, ⟨87, [.v (.bool ((f0w (norm (N1 : Int) 0) (norm ((1 : Nat) : Int) 62)).neg)), .v (.slice p44 (dig B32 (f0w (norm (N1 : Int) 0) (norm ((1 : Nat) : Int) 62)).m).length c44), .v (.int .i64 ((f0w (norm (N1 : Int) 0) (norm ((1 : Nat) : Int) 62)).e))], false⟩] ∧ gs = [ownF w.heap.size .u32 76 p44 c44 (dig B32 (f0w (norm (N1 : Int) 0) (norm ((1 : Nat) : Int) 62)).m), ownF w.heap.size .u32 76 p24 c24 (dig B32 (norm (N1 : Int) 0).m), ownF w.heap.size .u32 76 p23 c23 (dig B32 N1), tabF]) ?_ ?_
     · intro J hJ Al W I
       refine zd [1] I fun Al W I => ?_
       refine zo2 0 1 I (fun I => ?_) (fun I => ?_)
       · refine zn I fun Al W I => ?_
         refine zo 1 I fun I => ?_
         refine zqo I (fun Al W I => e0q W) fun Al W p42 c42 I => ?_
         refine zo 2 I fun I => ?_
         refine zqo I (fun Al W I => have hzW := I.bel.size; (HW 1 62 (by omega) (by omega) W p42 c42 I.fa.1.rd I.fa.1.le_cap I.fa.2.2.2.1).out) fun Al W p43 c43 I => ?_
         refine zo 3 I fun I => ?_
         refine zqo I (fun Al W I => have hzW := I.bel.size; (HPR N1 1 (by omega) (by omega) W p24 p43 c24 c43 _ I.fa.2.2.1 I.fa.1 I.fa.2.2.2.2.1 I.bel.size).out) fun Al W p44 c44 I => ?_
         refine zo 4 I fun I => ?_
         refine zn I fun Al W I => ?_
         exact a0m I J fun Al W U I => hJ _ _ _ _ _ ⟨U, p44, c44, rfl, rfl, rfl⟩ (I.pick [0, 3, 4, 5])
       refine zqo I (fun Al W I => e0q W) fun Al W p42 c42 I => ?_
       refine zo2 0 2 I (fun I => ?_) (fun I => ?_)
       · refine zn I fun Al W I => ?_
         refine zo 2 I fun I => ?_
         refine zqo I (fun Al W I => have hzW := I.bel.size; (HW 1 62 (by omega) (by omega) W p42 c42 I.fa.1.rd I.fa.1.le_cap I.fa.2.2.2.1).out) fun Al W p43 c43 I => ?_
         refine zo 3 I fun I => ?_
         refine zqo I (fun Al W I => have hzW := I.bel.size; (HPR N1 1 (by omega) (by omega) W p24 p43 c24 c43 _ I.fa.2.2.1 I.fa.1 I.fa.2.2.2.2.1 I.bel.size).out) fun Al W p44 c44 I => ?_
         refine zo 4 I fun I => ?_
         refine zn I fun Al W I => ?_
         exact a0m I J fun Al W U I => hJ _ _ _ _ _ ⟨U, p44, c44, rfl, rfl, rfl⟩ (I.pick [0, 3, 4, 5])
       refine zqo I (fun Al W I => have hzW := I.bel.size; (HW 1 62 (by omega) (by omega) W p42 c42 I.fa.1.rd I.fa.1.le_cap I.fa.2.2.2.1).out) fun Al W p43 c43 I => ?_
       refine zo 0 I fun I => ?_
       refine zn I fun Al W I => ?_
       refine zo 3 I fun I => ?_
       refine zqo I (fun Al W I => have hzW := I.bel.size; (HPR N1 1 (by omega) (by omega) W p24 p43 c24 c43 _ I.fa.2.2.1 I.fa.1 I.fa.2.2.2.2.1 I.bel.size).out) fun Al W p44 c44 I => ?_
       refine zo 4 I fun I => ?_
       refine zn I fun Al W I => ?_
       exact a0m I J fun Al W U I => hJ _ _ _ _ _ ⟨U, p44, c44, rfl, rfl, rfl⟩ (I.pick [0, 3, 4, 5])
     rintro _ _ _ ⟨U1, p44, c44, rfl, rfl, rfl⟩ Al W I
     refine zge I 0 153 (fun Al W I => have hzW := I.bel.size; (HNU _ (e3 N1 (by omega)) W p44 c44 _ (I.box 0 153 _) I.fa.1.rd).out) fun Al V Iv _ _ kz => ?_
     rintro _ W ⟨v48, hR48, p48, c48, rfl, o48, hO, hB⟩
     refine ⟨_, rfl, kz _ (uS f fm way (flS : Int)) _ hO hB fun I => ?_⟩
     have I := I.own o48
     refine zq I (fun Al W I => (HTL W v48 p48 c48 _ _ (I.box 0 153 _) I.fa.1 hR48 I.fa.2.2.2.2.1).out) fun Al W I => ?_
     exact zrb I
   refine zb I 40 (decide (n ≥ 4611686018427387904)) (false) (dFa hbig) fun Al W I => ?_
   refine zge I 0 153 (fun Al W I => have hzW := I.bel.size; (HNU _ (eP N1 (by omega) (by omega)) W p24 c24 _ (I.box 0 153 _) I.fa.1.rd).out) fun Al V Iv _ _ kz => ?_
   rintro _ W ⟨v48, hR48, p48, c48, rfl, o48, hO, hB⟩
   refine ⟨_, rfl, kz _ (uS f fm way (flS : Int)) _ hO hB fun I => ?_⟩
   have I := I.own o48
   refine zq I (fun Al W I => (HTL W v48 p48 c48 _ _ (I.box 0 153 _) I.fa.1 hR48 I.fa.2.2.2.1).out) fun Al W I => ?_
   exact zrb I
 · have h0 : errR fm way [] = 6 := by
    unfold errR
    by_cases hn : IsFm fm
    · rw [if_pos hn, if_pos (show errL fm [] = 0 from rfl), if_neg (fun h => hok ⟨hn, h⟩)]
    · rw [if_neg hn]
   simp only [h0, show ((6 : Int) = 0) = False by simp, if_false]
   have HO := fun W => hi0 (u0e fm way W hok)
   have I := Inv.start w [] True.intro
   refine a0d [.v (.int .i64 n), .v (.int .i64 fm), .v (.int .i64 way)] I Tryd.func80 ?_
   refine zq I (fun Al W I => (HO W).out) fun Al W I => ?_
   exact zrb I
def v0n (v : Nat) (neg : Bool) : Int × Bool := if v < 9223372036854775808 then (if neg = true then -(v : Int) else v, true) else (-9223372036854775808, neg && decide (v = 9223372036854775808))
theorem f1w {v i : Nat} (hi : i < 2) : bits .or .u64 (((v % B32 ^ i : Nat) : Int)) (((v / B32 ^ i % B32 * 2 ^ (32 * i) : Nat)) : Int) = ((v % B32 ^ (i + 1) : Nat) : Int) := by
 have hB : B32 = 4294967296 := rfl
 have hx : v / B32 ^ i % B32 < B32 := Nat.mod_lt _ (by unfold B32; omega)
 rcases (show i = 0 ∨ i = 1 by omega) with rfl | rfl
 · simp only [Nat.pow_zero, Nat.mod_one, Nat.div_one, Nat.mul_zero, Nat.mul_one, Nat.zero_add, Nat.pow_one]
   rw [u64_or_nat 0 (v % B32) (by omega) (by rw [hB]; omega), Nat.zero_or]
 · simp only [Nat.pow_one, Nat.mul_one]
   have h1 : v % B32 < 4294967296 := by rw [hB]; omega
   have h2 : v / B32 % B32 * 2 ^ 32 < 18446744073709551616 := by rw [hB]; omega
   rw [u64_or_nat _ _ (by omega) h2, Nat.or_comm, nat_join 32 (v / B32 % B32 * 2 ^ 32) (v % B32) (by omega) (by omega)]
   have : v % B32 ^ (1 + 1) = v % B32 + B32 * (v / B32 % B32) := by
    rw [show (1 + 1) = 2 from rfl, Nat.pow_two, Nat.mod_mul]
   rw [this, hB]
   omega
theorem f1x {v i : Nat} : dg (dig B32 v) i = v / B32 ^ i % B32 := h1w a0a v i
theorem s0r (p : Option Addr) (c : Nat) (v : Nat) (neg : Bool) (w : World) (hp : Rd w .u32 p (dig B32 v)) (hv : v < 18446744073709551616) :
 Calls Tryd.prog 133 #[.slice p (dig B32 v).length c, .bool neg] w fun en w' => en = .returned (.tuple #[.int .i64 (v0n v neg).1, .bool (v0n v neg).2]) ∧ Below w.heap.size w w' := by
 have hl : (dig B32 v).length ≤ 2 := (a0e a0a _ 2).2 (by unfold B32; omega)
 have HL := fun W h => hi0 (stay (e0z p _ c v W h rfl (by omega)))
 have hbl : blen v < 64 ↔ v < 9223372036854775808 := by
  have := b0f v 63
  omega
 have hfull : v % B32 ^ (dig B32 v).length = v := Nat.mod_eq_of_lt ((a0e a0a v _).1 (Nat.le_refl _))
 have hstep : ∀ i, i < (dig B32 v).length → bits .or .u64 (((v % B32 ^ i : Nat) : Int)) (((dg (dig B32 v) i * 2 ^ (32 * i) : Nat)) : Int) = ((v % B32 ^ (i + 1) : Nat) : Int) := fun i h => by rw [f1x]; exact f1w (by omega)
 have hsh : ∀ i, i < (dig B32 v).length → IntKind.u64.wrap (((dg (dig B32 v) i : Nat) : Int) * 2 ^ (min (32 * (i : Int)).toNat IntKind.u64.bits)) = ((dg (dig B32 v) i * 2 ^ (32 * i) : Nat) : Int) := fun i h => by
  have hx : dg (dig B32 v) i < 4294967296 := by rw [f1x]; exact Nat.mod_lt _ (by unfold B32; omega)
  rcases (show i = 0 ∨ i = 1 by omega) with rfl | rfl
  · simp only [Nat.mul_zero, Nat.pow_zero, Nat.mul_one]
    rw [show min (32 * ((0 : Nat) : Int)).toNat IntKind.u64.bits = 0 from rfl, Int.pow_zero, Int.mul_one]
    exact IntWalk.u64_in _ (by omega)
  · rw [show min (32 * ((1 : Nat) : Int)).toNat IntKind.u64.bits = 32 from rfl, Nat.mul_one]
    rw [IntWalk.u64_in _ (by omega)]
    simp
 have HU : ∀ X : Int, 0 ≤ X → X < 9223372036854775808 → IntKind.i64.wrap X = X := fun X h1 h2 => iwo
 have hM : v0n v neg = if v < 9223372036854775808 then (if neg = true then -(v : Int) else v, true) else (-9223372036854775808, neg && decide (v = 9223372036854775808)) := rfl
 have hdg : ∀ i, dg (dig B32 v) i < 4294967296 := fun i => by rw [f1x]; exact Nat.mod_lt _ (by unfold B32; omega)
 generalize blen v = bl at *
 have I := Inv.start w [rdF .u32 p (dig B32 v)] ⟨hp, True.intro⟩
 refine a0d [.v (.slice p (dig B32 v).length c), .v (.bool neg)] I Tryd.func133 ?_
 refine x0l I (fun gk fr bx gs => ∃ (U900 : Nat → Value) (i : Nat) (u : Nat), fr = (.v (.slice p (dig B32 v).length c) :: .v (.bool neg) :: su 2 (.v (.int .i64 0) :: .v (.bool false) :: .v (.int .u64 (u : Int)) :: sw U900 7 2 (.v (.slice p (dig B32 v).length c) :: .v (.int .i64 (((dig B32 v).length : Nat) : Int)) :: .v (.int .i64 (i : Int)) :: sw U900 12 12 (.v undef :: sw U900 25 9 (.v undef :: sw U900 35 10 [])))) : List SV) ∧ bx = [] ∧ gs = [rdF .u32 p (dig B32 v)] ∧ (u = v % B32 ^ i) ∧ (gk + i = (dig B32 v).length)) ((dig B32 v).length) (fun Al W U I => ⟨_, ⟨U, 0, 0, rfl, rfl, rfl, (by rw [Nat.pow_zero, Nat.mod_one]), (by omega)⟩, I.pick [0]⟩) ?_
 rintro J gk0 _ _ _ ⟨U900, i, u, rfl, rfl, rfl, hu, hgk⟩ hJ Al W I
 rcases Bool.eq_false_or_eq_true (decide ((i : Int) < (((dig B32 v).length : Nat) : Int))) with f12 | f12
 · refine zb I 12 (decide ((i : Int) < (((dig B32 v).length : Nat) : Int))) (true) (f12) fun Al W I => ?_
   refine zx I 14 (fun _ => .pointer (some (at_ p i))) (fun Al W I => (m0q (m := i) (n := (dig B32 v).length) (c := c) h1q I.fa.1.solid (by have := oTr f12; omega))) fun Al W I => ?_
   refine zx I 15 (fun _ => .int .u32 ((dg (dig B32 v) i : Nat) : Int)) (fun Al W I => (d1g I.fa.1 h1r (by have := oTr f12; omega))) fun Al W I => ?_
   refine zi I 18 .u64 ((dg (dig B32 v) i : Nat) : Int) (((dg (dig B32 v) i : Nat) : Int)) ((by exact IntWalk.u64_in _ (by have := hdg i; omega))) fun Al W I => ?_
   refine zi I 20 .i64 ((32 : Int) * (i : Int)) ((32 : Int) * (i : Int)) (iwo) fun Al W I => ?_
   refine zbin I 21 _ (fun _ _ _ _ _ => c0d .u64 (((dg (dig B32 v) i : Nat) : Int)) .i64 ((32 : Int) * (i : Int)) (((dg (dig B32 v) i * 2 ^ (32 * i) : Nat) : Int)) (by omega) ((hsh i (by have := oTr f12; omega)))) fun Al W I => ?_
   refine zbin I 22 _ (fun _ _ _ _ _ => d1c .u64 (u : Int) (((dg (dig B32 v) i * 2 ^ (32 * i) : Nat) : Int)) (((v % B32 ^ (i + 1) : Nat) : Int)) ((by rw [hu]; exact hstep i (by have := oTr f12; omega)))) fun Al W I => ?_
   refine zi I 23 .i64 ((i : Int) + 1) ((i : Int) + 1) (iwo) fun Al W I => ?_
   exact a0m I J fun Al W U I => hJ (gk0 - 1) _ _ _ _ _ ((by have := oTr f12; omega)) ⟨U, i + 1, v % B32 ^ (i + 1), rfl, rfl, rfl, rfl, (by have := oTr f12; omega)⟩ (I.pick [0])
 refine zb I 12 (decide ((i : Int) < (((dig B32 v).length : Nat) : Int))) (false) (f12) fun Al W I => ?_
 by_cases hs : v < 9223372036854775808
 · by_cases ng : neg = true
   · have hi : i = (dig B32 v).length := by have := oFa f12; omega
     rw [hi, hfull] at hu
     refine zq I (fun Al W I => (HL W I.fa.1).out) fun Al W I => ?_
     refine zb I 27 (decide ((bl : Int) < 64)) (true) (dTr (by omega)) fun Al W I => ?_
     refine zb I 29 (neg) (true) (ng) fun Al W I => ?_
     refine zi I 32 .i64 (u : Int) (u : Int) (iwo) fun Al W I => ?_
     refine zi I 33 .i64 (0 - (u : Int)) (-(u : Int)) ((iwo).trans (by omega)) fun Al W I => ?_
     exact zret I (v := fun Al => .tuple #[.int .i64 (-(u : Int)), .bool true]) fun Al W I => ⟨by rw [hM, if_pos hs, if_pos ng, hu], I.below⟩
   have hi : i = (dig B32 v).length := by have := oFa f12; omega
   rw [hi, hfull] at hu
   refine zq I (fun Al W I => (HL W I.fa.1).out) fun Al W I => ?_
   refine zb I 27 (decide ((bl : Int) < 64)) (true) (dTr (by omega)) fun Al W I => ?_
   refine zb I 29 (neg) (false) ((by simpa using ng)) fun Al W I => ?_
   refine zq I (fun Al W I => (HL W I.fa.1).out) fun Al W I => ?_
   refine zb I 37 (decide ((bl : Int) < 64)) (true) (dTr (by omega)) fun Al W I => ?_
   refine zi I 39 .i64 (u : Int) (u : Int) (iwo) fun Al W I => ?_
   exact zret I (v := fun Al => .tuple #[.int .i64 (u : Int), .bool true]) fun Al W I => ⟨by rw [hM, if_pos hs, if_neg ng, hu], I.below⟩
 by_cases ng : neg = true
 · have hi : i = (dig B32 v).length := by have := oFa f12; omega
   rw [hi, hfull] at hu
   refine zq I (fun Al W I => (HL W I.fa.1).out) fun Al W I => ?_
   refine zb I 27 (decide ((bl : Int) < 64)) (false) (dFa (by omega)) fun Al W I => ?_
   refine zq I (fun Al W I => (HL W I.fa.1).out) fun Al W I => ?_
   refine zb I 37 (decide ((bl : Int) < 64)) (false) (dFa (by omega)) fun Al W I => ?_
   refine zb I 41 (neg) (true) (ng) fun Al W I => ?_
   exact zret I (v := fun Al => .tuple #[.int .i64 (-9223372036854775808), .bool ((u : Int) == 9223372036854775808)]) fun Al W I => ⟨by rw [hM, if_neg hs, ng, Bool.true_and, hu]; exact congrArg (fun b => Ending.returned (.tuple #[.int .i64 (-9223372036854775808), .bool b])) (Bool.eq_iff_iff.2 (by simp; omega)), I.below⟩
 have hi : i = (dig B32 v).length := by have := oFa f12; omega
 rw [hi, hfull] at hu
 refine zq I (fun Al W I => (HL W I.fa.1).out) fun Al W I => ?_
 refine zb I 27 (decide ((bl : Int) < 64)) (false) (dFa (by omega)) fun Al W I => ?_
 refine zq I (fun Al W I => (HL W I.fa.1).out) fun Al W I => ?_
 refine zb I 37 (decide ((bl : Int) < 64)) (false) (dFa (by omega)) fun Al W I => ?_
 refine zb I 41 (neg) (false) ((by simpa using ng)) fun Al W I => ?_
 exact zret I (v := fun Al => .tuple #[.int .i64 (-9223372036854775808), .bool false]) fun Al W I => ⟨by rw [hM, if_neg hs, show neg = false by simpa using ng]; rfl, I.below⟩
def h0h : Gd := ⟨2, 64, 0, 0, true⟩
theorem q0u : g0k h0h := ⟨.inl rfl, by decide, by decide, by decide, by decide, by decide, by decide, by decide⟩
def z0s (x : Dv) (way : Int) : Int × Nat :=
 if (v0n (a0r x.neg x.m 1 x.e h0h way).d (a0r x.neg x.m 1 x.e h0h way).neg).2 = true ∧ (a0r x.neg x.m 1 x.e h0h way).over = false then
  ((v0n (a0r x.neg x.m 1 x.e h0h way).d (a0r x.neg x.m 1 x.e h0h way).neg).1, if (a0r x.neg x.m 1 x.e h0h way).exact = true then 0 else 1) else (0, 16)
def q0v (r : Vr) (way : Int) : Int × Nat := if r.cls = 1 then (0, 0) else if r.cls ≠ 2 then (0, 16) else z0s r.x way
def z0t (n way : Int) (s : ByteArray) (w : World) (en : Ending) (w' : World) : Prop :=
 en = .returned (.tuple #[.int .i64 (if errR n way [s] = 0 then (q0v (refD n s) way).1 else 0), .int .i64 (if errR n way [s] = 0 then ((q0v (refD n s) way).2 : Int) else 0), .int .i64 (errR n way [s])]) ∧ Below w.heap.size w w'
theorem z0u (n way : Int) (s : ByteArray) (w : World) (hT : TabW w) : Calls Tryd.prog 81 #[.int .i64 n, .string s, .int .i64 way] w (z0t n way s w) := by
 unfold z0t
 have HD := fun W h => hi0 (v0f n s W h)
 by_cases hp : b0x n s = 0
 · have hn := (c0y.1 hp).1
   have hL : errL n [s] = 0 := by unfold errL errL; simp [hp]
   rw [hp] at HD
   by_cases hw : 1 ≤ way ∧ way ≤ 5
   · have h0 : errR n way [s] = 0 := by unfold errR; rw [if_pos hn, if_pos hL, if_pos hw]
     simp only [h0, if_true]
     have HO := fun W => hi0 (z0q n way W hn hw)
     have F := z0r (s := s) hn
     have V := c1k hp
     have HX := fun W p c b h1 h2 => hi0 (c1m n (decP n s) (refD n s) p c b W hn h1 V F.ok h2)
     have hcl := V.cls
     have hc := F.ok.c
     have hx2 := F.ok.x2
     have sm := F.ok.sm
     have hT0 : q0v (refD n s) way = if (refD n s).cls = 1 then (0, 0) else if (refD n s).cls ≠ 2 then (0, 16) else z0s (refD n s).x way := rfl
     generalize q0v (refD n s) way = TT at *
     generalize decP n s = v at *
     generalize refD n s = r at *
     generalize fmt n = f at *
     have s1 := sm.len
     have s2 := sm.lo
     have s3 := sm.hi
     have d1 : (dig B32 1).length ≤ 1 := by rw [q0e a0a (by omega) (by unfold B32; omega)]; simp
     have HF := fun (h : r.cls = 2) W p q c d h1 h2 => hi0 (q0q r.x.neg p q c d r.x.m 1 r.x.e h0h way W h1 h2 (by omega) (by omega) (by have := (hx2 h).1; omega) (by omega) (by omega) q0u hw.1 hw.2)
     have hlt : r.cls = 2 → (a0r r.x.neg r.x.m 1 r.x.e h0h way).d < 18446744073709551616 := fun h => by
      have h0 := (hx2 h).1
      unfold a0r
      rw [if_neg h0]
      exact t0s (show 0 < 1 by omega) q0u (o0e (by omega) (by omega) _ (b0d _).1 (by decide))
     unfold z0s at hT0
     generalize a0r r.x.neg r.x.m 1 r.x.e h0h way = P at *
     have HMa := fun (h : r.cls = 2) W p c h1 => hi0 (s0r p c P.d P.neg W h1 (hlt h))
     obtain ⟨mi, mb, hm⟩ : ∃ mi mb, v0n P.d P.neg = (mi, mb) := ⟨_, _, rfl⟩
     rw [hm] at HMa hT0
     simp only at HMa hT0
     clear hm hlt F V sm
     have I := Inv.start w [tabF] ⟨hT, True.intro⟩
     refine a0d [.v (.int .i64 n), .v (.string s), .v (.int .i64 way)] I Tryd.func81 ?_
     refine zqo I (fun Al W I => (HD W I.fa.1).out) fun Al W p22 c22 I => ?_
     refine zg I (fun Al W I => (HO W).out) fun Al V Iv _ hB _ kz => ?_
     rintro _ W ⟨u31, rfl, hge, hB, hb⟩
     refine ⟨_, rfl, kz _ _ hb fun I => ?_⟩
     by_cases h1 : r.cls = 1
     · refine zb I 39 ((v.cls : Int) == 1) (true) (dTr (by omega)) fun Al W I => ?_
       refine zret I (v := fun Al => .tuple #[.int .i64 0, .int .i64 0, .int .i64 0]) fun Al W I => ?_
       first | exact ⟨by rw [hT0, if_pos h1]; rfl, I.below⟩ | exact ⟨by rw [hT0, if_neg h1, if_pos h2]; rfl, I.below⟩ | exact ⟨by rw [hT0, if_neg h1, if_neg (by omega), if_neg (fun h => hmb h.1)]; rfl, I.below⟩ | exact ⟨by rw [hT0, if_neg h1, if_neg (by omega), if_neg (fun h => absurd (h.2.symm.trans hov) (by decide))]; rfl, I.below⟩ | exact ⟨by rw [hT0, if_neg h1, if_neg (by omega), if_pos ⟨hmb, by simpa using hov⟩, if_pos hex]; rfl, I.below⟩ | exact ⟨by rw [hT0, if_neg h1, if_neg (by omega), if_pos ⟨hmb, by simpa using hov⟩, if_neg hex]; rfl, I.below⟩
     refine zb I 39 ((v.cls : Int) == 1) (false) (dFa (by omega)) fun Al W I => ?_
     by_cases h2 : r.cls = 2
     · refine zb I 42 ((v.cls : Int) != 2) (false) (bne_eq_false_iff_eq.2 (by omega)) fun Al W I => ?_
       refine zqo I (fun Al W I => (HX W p22 c22 _ I.fa.1 I.fa.2.1).out) fun Al W p45 c45 I => ?_
       refine zd [] I fun Al W I => ?_
       refine zk [0, 1, 2, 3, 4, 5, 7, 8, 9, 11, 12] I fun I => ?_
       refine zo2 6 14 I (fun I => ?_) (fun I => ?_)
       · refine zqo I (fun Al W I => e0q W) fun Al W p53 c53 I => ?_
         refine zk [10] I fun I => ?_
         refine zo2 13 14 I (fun I => ?_) (fun I => ?_)
         · refine zqo I (fun Al W I => (HF h2 W p45 p53 c45 c53 I.fa.2.1.rd I.fa.1.rd).out) fun Al W p60 c60 I => ?_
           refine zo 14 I fun I => ?_
           refine zn I fun Al W I => ?_
           refine zo 15 I fun I => ?_
           refine zn I fun Al W I => ?_
           refine zq I (fun Al W I => (HMa h2 W p60 c60 I.fa.1.rd).out) fun Al W I => ?_
           by_cases hmb : mb = true
           · by_cases hov : P.over = true
             · refine zb I 70 (mb) (true) (hmb) fun Al W I => ?_
               refine zb I 72 (P.over) (true) (hov) fun Al W I => ?_
               refine zret I (v := fun Al => .tuple #[.int .i64 0, .int .i64 16, .int .i64 0]) fun Al W I => ?_
               first | exact ⟨by rw [hT0, if_pos h1]; rfl, I.below⟩ | exact ⟨by rw [hT0, if_neg h1, if_pos h2]; rfl, I.below⟩ | exact ⟨by rw [hT0, if_neg h1, if_neg (by omega), if_neg (fun h => hmb h.1)]; rfl, I.below⟩ | exact ⟨by rw [hT0, if_neg h1, if_neg (by omega), if_neg (fun h => absurd (h.2.symm.trans hov) (by decide))]; rfl, I.below⟩ | exact ⟨by rw [hT0, if_neg h1, if_neg (by omega), if_pos ⟨hmb, by simpa using hov⟩, if_pos hex]; rfl, I.below⟩ | exact ⟨by rw [hT0, if_neg h1, if_neg (by omega), if_pos ⟨hmb, by simpa using hov⟩, if_neg hex]; rfl, I.below⟩
             refine zb I 70 (mb) (true) (hmb) fun Al W I => ?_
             refine zb I 72 (P.over) (false) ((by simpa using hov)) fun Al W I => ?_
             by_cases hex : P.exact = true
             · refine zb I 76 (P.exact) (true) (hex) fun Al W I => ?_
               refine zret I (v := fun Al => .tuple #[.int .i64 mi, .int .i64 0, .int .i64 0]) fun Al W I => ?_
               first | exact ⟨by rw [hT0, if_pos h1]; rfl, I.below⟩ | exact ⟨by rw [hT0, if_neg h1, if_pos h2]; rfl, I.below⟩ | exact ⟨by rw [hT0, if_neg h1, if_neg (by omega), if_neg (fun h => hmb h.1)]; rfl, I.below⟩ | exact ⟨by rw [hT0, if_neg h1, if_neg (by omega), if_neg (fun h => absurd (h.2.symm.trans hov) (by decide))]; rfl, I.below⟩ | exact ⟨by rw [hT0, if_neg h1, if_neg (by omega), if_pos ⟨hmb, by simpa using hov⟩, if_pos hex]; rfl, I.below⟩ | exact ⟨by rw [hT0, if_neg h1, if_neg (by omega), if_pos ⟨hmb, by simpa using hov⟩, if_neg hex]; rfl, I.below⟩
             refine zb I 76 (P.exact) (false) ((by simpa using hex)) fun Al W I => ?_
             refine zret I (v := fun Al => .tuple #[.int .i64 mi, .int .i64 1, .int .i64 0]) fun Al W I => ?_
             first | exact ⟨by rw [hT0, if_pos h1]; rfl, I.below⟩ | exact ⟨by rw [hT0, if_neg h1, if_pos h2]; rfl, I.below⟩ | exact ⟨by rw [hT0, if_neg h1, if_neg (by omega), if_neg (fun h => hmb h.1)]; rfl, I.below⟩ | exact ⟨by rw [hT0, if_neg h1, if_neg (by omega), if_neg (fun h => absurd (h.2.symm.trans hov) (by decide))]; rfl, I.below⟩ | exact ⟨by rw [hT0, if_neg h1, if_neg (by omega), if_pos ⟨hmb, by simpa using hov⟩, if_pos hex]; rfl, I.below⟩ | exact ⟨by rw [hT0, if_neg h1, if_neg (by omega), if_pos ⟨hmb, by simpa using hov⟩, if_neg hex]; rfl, I.below⟩
           by_cases hov : P.over = true
           · refine zb I 70 (mb) (false) ((by simpa using hmb)) fun Al W I => ?_
             refine zret I (v := fun Al => .tuple #[.int .i64 0, .int .i64 16, .int .i64 0]) fun Al W I => ?_
             first | exact ⟨by rw [hT0, if_pos h1]; rfl, I.below⟩ | exact ⟨by rw [hT0, if_neg h1, if_pos h2]; rfl, I.below⟩ | exact ⟨by rw [hT0, if_neg h1, if_neg (by omega), if_neg (fun h => hmb h.1)]; rfl, I.below⟩ | exact ⟨by rw [hT0, if_neg h1, if_neg (by omega), if_neg (fun h => absurd (h.2.symm.trans hov) (by decide))]; rfl, I.below⟩ | exact ⟨by rw [hT0, if_neg h1, if_neg (by omega), if_pos ⟨hmb, by simpa using hov⟩, if_pos hex]; rfl, I.below⟩ | exact ⟨by rw [hT0, if_neg h1, if_neg (by omega), if_pos ⟨hmb, by simpa using hov⟩, if_neg hex]; rfl, I.below⟩
           refine zb I 70 (mb) (false) ((by simpa using hmb)) fun Al W I => ?_
           refine zret I (v := fun Al => .tuple #[.int .i64 0, .int .i64 16, .int .i64 0]) fun Al W I => ?_
           first | exact ⟨by rw [hT0, if_pos h1]; rfl, I.below⟩ | exact ⟨by rw [hT0, if_neg h1, if_pos h2]; rfl, I.below⟩ | exact ⟨by rw [hT0, if_neg h1, if_neg (by omega), if_neg (fun h => hmb h.1)]; rfl, I.below⟩ | exact ⟨by rw [hT0, if_neg h1, if_neg (by omega), if_neg (fun h => absurd (h.2.symm.trans hov) (by decide))]; rfl, I.below⟩ | exact ⟨by rw [hT0, if_neg h1, if_neg (by omega), if_pos ⟨hmb, by simpa using hov⟩, if_pos hex]; rfl, I.below⟩ | exact ⟨by rw [hT0, if_neg h1, if_neg (by omega), if_pos ⟨hmb, by simpa using hov⟩, if_neg hex]; rfl, I.below⟩
         refine zn I fun Al W I => ?_
         refine zo 13 I fun I => ?_
         refine zqo I (fun Al W I => (HF h2 W p45 p53 c45 c53 I.fa.2.1.rd I.fa.1.rd).out) fun Al W p60 c60 I => ?_
         refine zo 15 I fun I => ?_
         refine zn I fun Al W I => ?_
         refine zq I (fun Al W I => (HMa h2 W p60 c60 I.fa.1.rd).out) fun Al W I => ?_
         by_cases hmb : mb = true
         · by_cases hov : P.over = true
           · refine zb I 70 (mb) (true) (hmb) fun Al W I => ?_
             refine zb I 72 (P.over) (true) (hov) fun Al W I => ?_
             refine zret I (v := fun Al => .tuple #[.int .i64 0, .int .i64 16, .int .i64 0]) fun Al W I => ?_
             first | exact ⟨by rw [hT0, if_pos h1]; rfl, I.below⟩ | exact ⟨by rw [hT0, if_neg h1, if_pos h2]; rfl, I.below⟩ | exact ⟨by rw [hT0, if_neg h1, if_neg (by omega), if_neg (fun h => hmb h.1)]; rfl, I.below⟩ | exact ⟨by rw [hT0, if_neg h1, if_neg (by omega), if_neg (fun h => absurd (h.2.symm.trans hov) (by decide))]; rfl, I.below⟩ | exact ⟨by rw [hT0, if_neg h1, if_neg (by omega), if_pos ⟨hmb, by simpa using hov⟩, if_pos hex]; rfl, I.below⟩ | exact ⟨by rw [hT0, if_neg h1, if_neg (by omega), if_pos ⟨hmb, by simpa using hov⟩, if_neg hex]; rfl, I.below⟩
           refine zb I 70 (mb) (true) (hmb) fun Al W I => ?_
           refine zb I 72 (P.over) (false) ((by simpa using hov)) fun Al W I => ?_
           by_cases hex : P.exact = true
           · refine zb I 76 (P.exact) (true) (hex) fun Al W I => ?_
             refine zret I (v := fun Al => .tuple #[.int .i64 mi, .int .i64 0, .int .i64 0]) fun Al W I => ?_
             first | exact ⟨by rw [hT0, if_pos h1]; rfl, I.below⟩ | exact ⟨by rw [hT0, if_neg h1, if_pos h2]; rfl, I.below⟩ | exact ⟨by rw [hT0, if_neg h1, if_neg (by omega), if_neg (fun h => hmb h.1)]; rfl, I.below⟩ | exact ⟨by rw [hT0, if_neg h1, if_neg (by omega), if_neg (fun h => absurd (h.2.symm.trans hov) (by decide))]; rfl, I.below⟩ | exact ⟨by rw [hT0, if_neg h1, if_neg (by omega), if_pos ⟨hmb, by simpa using hov⟩, if_pos hex]; rfl, I.below⟩ | exact ⟨by rw [hT0, if_neg h1, if_neg (by omega), if_pos ⟨hmb, by simpa using hov⟩, if_neg hex]; rfl, I.below⟩
           refine zb I 76 (P.exact) (false) ((by simpa using hex)) fun Al W I => ?_
           refine zret I (v := fun Al => .tuple #[.int .i64 mi, .int .i64 1, .int .i64 0]) fun Al W I => ?_
           first | exact ⟨by rw [hT0, if_pos h1]; rfl, I.below⟩ | exact ⟨by rw [hT0, if_neg h1, if_pos h2]; rfl, I.below⟩ | exact ⟨by rw [hT0, if_neg h1, if_neg (by omega), if_neg (fun h => hmb h.1)]; rfl, I.below⟩ | exact ⟨by rw [hT0, if_neg h1, if_neg (by omega), if_neg (fun h => absurd (h.2.symm.trans hov) (by decide))]; rfl, I.below⟩ | exact ⟨by rw [hT0, if_neg h1, if_neg (by omega), if_pos ⟨hmb, by simpa using hov⟩, if_pos hex]; rfl, I.below⟩ | exact ⟨by rw [hT0, if_neg h1, if_neg (by omega), if_pos ⟨hmb, by simpa using hov⟩, if_neg hex]; rfl, I.below⟩
         by_cases hov : P.over = true
         · refine zb I 70 (mb) (false) ((by simpa using hmb)) fun Al W I => ?_
           refine zret I (v := fun Al => .tuple #[.int .i64 0, .int .i64 16, .int .i64 0]) fun Al W I => ?_
           first | exact ⟨by rw [hT0, if_pos h1]; rfl, I.below⟩ | exact ⟨by rw [hT0, if_neg h1, if_pos h2]; rfl, I.below⟩ | exact ⟨by rw [hT0, if_neg h1, if_neg (by omega), if_neg (fun h => hmb h.1)]; rfl, I.below⟩ | exact ⟨by rw [hT0, if_neg h1, if_neg (by omega), if_neg (fun h => absurd (h.2.symm.trans hov) (by decide))]; rfl, I.below⟩ | exact ⟨by rw [hT0, if_neg h1, if_neg (by omega), if_pos ⟨hmb, by simpa using hov⟩, if_pos hex]; rfl, I.below⟩ | exact ⟨by rw [hT0, if_neg h1, if_neg (by omega), if_pos ⟨hmb, by simpa using hov⟩, if_neg hex]; rfl, I.below⟩
         refine zb I 70 (mb) (false) ((by simpa using hmb)) fun Al W I => ?_
         refine zret I (v := fun Al => .tuple #[.int .i64 0, .int .i64 16, .int .i64 0]) fun Al W I => ?_
         first | exact ⟨by rw [hT0, if_pos h1]; rfl, I.below⟩ | exact ⟨by rw [hT0, if_neg h1, if_pos h2]; rfl, I.below⟩ | exact ⟨by rw [hT0, if_neg h1, if_neg (by omega), if_neg (fun h => hmb h.1)]; rfl, I.below⟩ | exact ⟨by rw [hT0, if_neg h1, if_neg (by omega), if_neg (fun h => absurd (h.2.symm.trans hov) (by decide))]; rfl, I.below⟩ | exact ⟨by rw [hT0, if_neg h1, if_neg (by omega), if_pos ⟨hmb, by simpa using hov⟩, if_pos hex]; rfl, I.below⟩ | exact ⟨by rw [hT0, if_neg h1, if_neg (by omega), if_pos ⟨hmb, by simpa using hov⟩, if_neg hex]; rfl, I.below⟩
       refine zn I fun Al W I => ?_
       refine zo 6 I fun I => ?_
       refine zqo I (fun Al W I => e0q W) fun Al W p53 c53 I => ?_
       refine zk [10] I fun I => ?_
       refine zo 13 I fun I => ?_
       refine zqo I (fun Al W I => (HF h2 W p45 p53 c45 c53 I.fa.2.1.rd I.fa.1.rd).out) fun Al W p60 c60 I => ?_
       refine zo 15 I fun I => ?_
       refine zn I fun Al W I => ?_
       refine zq I (fun Al W I => (HMa h2 W p60 c60 I.fa.1.rd).out) fun Al W I => ?_
       by_cases hmb : mb = true
       · by_cases hov : P.over = true
         · refine zb I 70 (mb) (true) (hmb) fun Al W I => ?_
           refine zb I 72 (P.over) (true) (hov) fun Al W I => ?_
           refine zret I (v := fun Al => .tuple #[.int .i64 0, .int .i64 16, .int .i64 0]) fun Al W I => ?_
           first | exact ⟨by rw [hT0, if_pos h1]; rfl, I.below⟩ | exact ⟨by rw [hT0, if_neg h1, if_pos h2]; rfl, I.below⟩ | exact ⟨by rw [hT0, if_neg h1, if_neg (by omega), if_neg (fun h => hmb h.1)]; rfl, I.below⟩ | exact ⟨by rw [hT0, if_neg h1, if_neg (by omega), if_neg (fun h => absurd (h.2.symm.trans hov) (by decide))]; rfl, I.below⟩ | exact ⟨by rw [hT0, if_neg h1, if_neg (by omega), if_pos ⟨hmb, by simpa using hov⟩, if_pos hex]; rfl, I.below⟩ | exact ⟨by rw [hT0, if_neg h1, if_neg (by omega), if_pos ⟨hmb, by simpa using hov⟩, if_neg hex]; rfl, I.below⟩
         refine zb I 70 (mb) (true) (hmb) fun Al W I => ?_
         refine zb I 72 (P.over) (false) ((by simpa using hov)) fun Al W I => ?_
         by_cases hex : P.exact = true
         · refine zb I 76 (P.exact) (true) (hex) fun Al W I => ?_
           refine zret I (v := fun Al => .tuple #[.int .i64 mi, .int .i64 0, .int .i64 0]) fun Al W I => ?_
           first | exact ⟨by rw [hT0, if_pos h1]; rfl, I.below⟩ | exact ⟨by rw [hT0, if_neg h1, if_pos h2]; rfl, I.below⟩ | exact ⟨by rw [hT0, if_neg h1, if_neg (by omega), if_neg (fun h => hmb h.1)]; rfl, I.below⟩ | exact ⟨by rw [hT0, if_neg h1, if_neg (by omega), if_neg (fun h => absurd (h.2.symm.trans hov) (by decide))]; rfl, I.below⟩ | exact ⟨by rw [hT0, if_neg h1, if_neg (by omega), if_pos ⟨hmb, by simpa using hov⟩, if_pos hex]; rfl, I.below⟩ | exact ⟨by rw [hT0, if_neg h1, if_neg (by omega), if_pos ⟨hmb, by simpa using hov⟩, if_neg hex]; rfl, I.below⟩
         refine zb I 76 (P.exact) (false) ((by simpa using hex)) fun Al W I => ?_
         refine zret I (v := fun Al => .tuple #[.int .i64 mi, .int .i64 1, .int .i64 0]) fun Al W I => ?_
         first | exact ⟨by rw [hT0, if_pos h1]; rfl, I.below⟩ | exact ⟨by rw [hT0, if_neg h1, if_pos h2]; rfl, I.below⟩ | exact ⟨by rw [hT0, if_neg h1, if_neg (by omega), if_neg (fun h => hmb h.1)]; rfl, I.below⟩ | exact ⟨by rw [hT0, if_neg h1, if_neg (by omega), if_neg (fun h => absurd (h.2.symm.trans hov) (by decide))]; rfl, I.below⟩ | exact ⟨by rw [hT0, if_neg h1, if_neg (by omega), if_pos ⟨hmb, by simpa using hov⟩, if_pos hex]; rfl, I.below⟩ | exact ⟨by rw [hT0, if_neg h1, if_neg (by omega), if_pos ⟨hmb, by simpa using hov⟩, if_neg hex]; rfl, I.below⟩
       by_cases hov : P.over = true
       · refine zb I 70 (mb) (false) ((by simpa using hmb)) fun Al W I => ?_
         refine zret I (v := fun Al => .tuple #[.int .i64 0, .int .i64 16, .int .i64 0]) fun Al W I => ?_
         first | exact ⟨by rw [hT0, if_pos h1]; rfl, I.below⟩ | exact ⟨by rw [hT0, if_neg h1, if_pos h2]; rfl, I.below⟩ | exact ⟨by rw [hT0, if_neg h1, if_neg (by omega), if_neg (fun h => hmb h.1)]; rfl, I.below⟩ | exact ⟨by rw [hT0, if_neg h1, if_neg (by omega), if_neg (fun h => absurd (h.2.symm.trans hov) (by decide))]; rfl, I.below⟩ | exact ⟨by rw [hT0, if_neg h1, if_neg (by omega), if_pos ⟨hmb, by simpa using hov⟩, if_pos hex]; rfl, I.below⟩ | exact ⟨by rw [hT0, if_neg h1, if_neg (by omega), if_pos ⟨hmb, by simpa using hov⟩, if_neg hex]; rfl, I.below⟩
       refine zb I 70 (mb) (false) ((by simpa using hmb)) fun Al W I => ?_
       refine zret I (v := fun Al => .tuple #[.int .i64 0, .int .i64 16, .int .i64 0]) fun Al W I => ?_
       first | exact ⟨by rw [hT0, if_pos h1]; rfl, I.below⟩ | exact ⟨by rw [hT0, if_neg h1, if_pos h2]; rfl, I.below⟩ | exact ⟨by rw [hT0, if_neg h1, if_neg (by omega), if_neg (fun h => hmb h.1)]; rfl, I.below⟩ | exact ⟨by rw [hT0, if_neg h1, if_neg (by omega), if_neg (fun h => absurd (h.2.symm.trans hov) (by decide))]; rfl, I.below⟩ | exact ⟨by rw [hT0, if_neg h1, if_neg (by omega), if_pos ⟨hmb, by simpa using hov⟩, if_pos hex]; rfl, I.below⟩ | exact ⟨by rw [hT0, if_neg h1, if_neg (by omega), if_pos ⟨hmb, by simpa using hov⟩, if_neg hex]; rfl, I.below⟩
     refine zb I 42 ((v.cls : Int) != 2) (true) (bne_iff_ne.2 (by omega)) fun Al W I => ?_
     refine zret I (v := fun Al => .tuple #[.int .i64 0, .int .i64 16, .int .i64 0]) fun Al W I => ?_
     first | exact ⟨by rw [hT0, if_pos h1]; rfl, I.below⟩ | exact ⟨by rw [hT0, if_neg h1, if_pos h2]; rfl, I.below⟩ | exact ⟨by rw [hT0, if_neg h1, if_neg (by omega), if_neg (fun h => hmb h.1)]; rfl, I.below⟩ | exact ⟨by rw [hT0, if_neg h1, if_neg (by omega), if_neg (fun h => absurd (h.2.symm.trans hov) (by decide))]; rfl, I.below⟩ | exact ⟨by rw [hT0, if_neg h1, if_neg (by omega), if_pos ⟨hmb, by simpa using hov⟩, if_pos hex]; rfl, I.below⟩ | exact ⟨by rw [hT0, if_neg h1, if_neg (by omega), if_pos ⟨hmb, by simpa using hov⟩, if_neg hex]; rfl, I.below⟩
   · have h0 : errR n way [s] = 6 := by unfold errR; rw [if_pos hn, if_pos hL, if_neg hw]
     simp only [h0, show ((6 : Int) = 0) = False by simp, if_false]
     have HO := fun W => hi0 (u0e n way W (fun h => hw h.2))
     generalize decP n s = v at *
     have I := Inv.start w [tabF] ⟨hT, True.intro⟩
     refine a0d [.v (.int .i64 n), .v (.string s), .v (.int .i64 way)] I Tryd.func81 ?_
     refine zqo I (fun Al W I => (HD W I.fa.1).out) fun Al W p22 c22 I => ?_
     refine zq I (fun Al W I => (HO W).out) fun Al W I => ?_
     exact zrb I
 · have h0 : errR n way [s] = b0x n s := by
    unfold errR
    by_cases hn : IsFm n
    · have : errL n [s] = b0x n s := by unfold errL errL; simp [hp]
      rw [if_pos hn, this, if_neg hp]
    · rw [if_neg hn]
      unfold b0x
      rw [if_neg hn]
   simp only [h0, if_neg hp]
   generalize decP n s = v at *
   generalize b0x n s = ep at *
   have I := Inv.start w [tabF] ⟨hT, True.intro⟩
   refine a0d [.v (.int .i64 n), .v (.string s), .v (.int .i64 way)] I Tryd.func81 ?_
   refine zqo I (fun Al W I => (HD W I.fa.1).out) fun Al W p22 c22 I => ?_
   refine zb I 26 (ep != 0) (true) (bne_iff_ne.2 hp) fun Al W I => ?_
   exact zrb I
theorem i0v (w : World) (hT : TabW w) : Calls Tryd.prog 32 #[] w fun en w' => en = .returned (.bool true) ∧ Below w.heap.size w w' := by
 have R3 : ResF (fmt 4) ((fmt 4).numM (intD 3) 1).1 := d1m (c0e (by decide)) _ _
 obtain ⟨q1, q2⟩ := c1l (n := 4) (by decide) R3
 have hA : ((fmt 4).numM (intD 3) 1).2 = 0 ∧ q0v ((fmt 4).numM (intD 3) 1).1 1 = (3, 0) := by decide +kernel
 have h0 : errR 4 1 [] = 0 := by decide
 have h1 : errR 4 1 [strR 4 ((fmt 4).numM (intD 3) 1).1] = 0 := by
  unfold errR
  have : errL 4 [strR 4 ((fmt 4).numM (intD 3) 1).1] = 0 := by unfold errL errL; simp [q1]
  rw [if_pos (by decide), if_pos this, if_pos (by decide)]
 have HF := fun W h => hi0 (f1u (s0q 3 4 1 W (by decide) h))
 have HI := fun W h => hi0 (z0u 4 1 (strR 4 ((fmt 4).numM (intD 3) 1).1) W h)
 unfold z0t at HI
 unfold outS outF at HF
 simp only [h0, h1, q2, hA.1, hA.2, if_true] at HF HI
 clear q1 q2 hA h0 h1 R3
 generalize strR 4 ((fmt 4).numM (intD 3) 1).1 = str at *
 have I := Inv.start w [tabF] ⟨hT, True.intro⟩
 refine a0d [] I Tryd.func32 ?_
 refine zq I (fun Al W I => (HF W I.fa.1).out) fun Al W I => ?_
 refine zq I (fun Al W I => (HI W I.fa.1).out) fun Al W I => ?_
 refine zb I 22 (((0 : Nat) : Int) == 0) (true) (rfl) fun Al W I => ?_
 refine zb I 34 (((0 : Nat) : Int) == 0) (true) (rfl) fun Al W I => ?_
 exact zrb I
end Go.Proofs.YtmacohmclpnphaaDoor
namespace Go.Slip
open Go.RowKit
section
variable {P : Program} {Q : Exit → Act → World → Prop} {E : List Nat} {w0 : World} {A : List Nat} {fs : List PF} {W : World} {c : Cfg}
theorem zunr (I : Inv E w0 A c.bx fs W) (n : Nat)
 (h : ∀ J : Nat → Act → World → Prop, (∀ m fr bx A W fs, Inv E w0 A bx fs W → (Inv E w0 A (m0o (zr P none c) fr bx (J m)).bx fs W → G P Q A (m0o (zr P none c) fr bx (J m)) W) → J (m + 1) (act A fr) W) → ∀ A W, Inv E w0 A (m0o (zr P none c) (zr P none c).fr (zr P none c).bx (J n)).bx fs W → G P Q A (m0o (zr P none c) (zr P none c).fr (zr P none c).bx (J n)) W)
 (hr : ∀ A w, (zms P none 5000 c A w).map (·.1) = (zms P none 5000 c A w).map (·.2) := by intro _ _; kernel_rfl)
 (hl : (x0k (zr P none c)).isSome = true := by kernel_rfl) : G P Q A c W :=
 b0w I hr fun A W I => by
  generalize zr P none c = c at *
  refine ⟨?_⟩
  obtain ⟨cf, cb, rg, ks⟩ := c
  cases rg with
  | pl => cases hl
  | dr => cases hl
  | one => cases hl
  | ret => cases hl
  | off =>
   cases ks with
   | nil => cases hl
   | cons k ks =>
    cases k with
    | block => cases hl
    | stop => cases hl
    | code b =>
     cases b with
     | loop b =>
      refine wp_loop_rounds (n + 1) ?_
      exact (h (fun m a w => Code.rounds P b (post P Q ks) m a w) (fun m fr bx A W fs I h => (h I).out) A W I).out
     | _ => cases hl
end
end Go.Slip
