/- arith: compare, Open, Tell.
   arith: decode.
   The references' OfD, Fitted, FitD, lost, off.
   arith: run.
   arith: values that were decoded; results that a format can hold.
   The references' off, sumOf, AddOf, MulOf, DivOf, FusedOf, CompareOf.
   A walk that reckons: where orders come together. No program is in sight here.
   arith: Add, Mul, Div.
   The laws' opened.
   What must be in any case: 1 and 1 are 2.
   The laws ArithAdds, ArithMuls, ArithDivs: their walks.
   arith: Compare.
   The references' CompareOf; the law ArithCompares: its walk. -/
import Derived.Deep.LoopGhost
import Derived.Deep.RegionHeld3
import Derived.Carry
import Derived.Test.YtlcdfnaaenibgaaGreatDoorZb1
import Derived.Test.YtlcdfnaaenibgaaGreatDoorZb2
import Derived.Test.YtlcdfnaaenibgaaGreatDoorZb3
import Derived.Test.YtlcdfnaaenibgaaGreatDoorZb4
import Derived.Test.YtlcdfnaaenibgaaGreatDoorZb5
import Derived.Test.YtlcdfnaaenibgaaGreatDoorZb6
import Derived.Test.YtlcdfnaaenibgaaGreatDoorZb7
set_option maxHeartbeats 8000000
set_option maxRecDepth 100000
namespace Go.Proofs.YtlcdfnaaenibgaaGreatDoor
open Go.RowKit Go.Slip

def _root_.Go.Slip.Vr.side (r : Vr) : Int := if r.cls ≠ 3 then 0 else if r.neg then -2 else 2
def cmpM (a b : Vr) : Int := if a.side ≠ 0 ∨ b.side ≠ 0 then clip (a.side - b.side) else rCmp a.x b.x

theorem u0k (f : Fm) (a : Vp) (r : Vr) (w : World) (A1 : AtV f a r) : Calls Tryz.prog 99 #[.agg #[.int .i64 (a.v.cls : Int), .bool a.v.neg, .slice a.p (dig B32 a.v.d).length a.c, .int .i64 a.v.pow]] w fun en w' => en = .returned (.int .i64 r.side) ∧ Below w.heap.size w w' := by
 unfold Vr.side
 rw [← A1.rep.cls, ← A1.rep.neg]
 clear A1
 obtain ⟨⟨k, g, d, e⟩, p, c⟩ := a
 simp only
 have HI := fun W => Lib.hid (a0f k g p (dig B32 d).length c e W)
 by_cases h : k = 3
 · rw [if_neg (fun h' => h' h)]
   cases g
   · have I := Inv.start w [] True.intro
     refine a0b [.v (.agg #[.int .i64 (k : Int), .bool false, .slice p (dig B32 d).length c, .int .i64 e])] I Tryz.func99 ?_
     refine zg I (fun Al W I => (HI W).out) fun Al V Iv hzV hB Kz kz => ?_
     rintro _ W ⟨rfl, hb⟩
     refine ⟨_, congrArg (fun b => Ending.returned (.bool b)) (show (decide (k = 3)) = true from decide_eq_true h), kz _ _ hb fun I => ?_⟩
     clear kz Kz
     exact zret I fun Al W I => ⟨rfl, I.below⟩
   · have I := Inv.start w [] True.intro
     refine a0b [.v (.agg #[.int .i64 (k : Int), .bool true, .slice p (dig B32 d).length c, .int .i64 e])] I Tryz.func99 ?_
     refine zg I (fun Al W I => (HI W).out) fun Al V Iv hzV hB Kz kz => ?_
     rintro _ W ⟨rfl, hb⟩
     refine ⟨_, congrArg (fun b => Ending.returned (.bool b)) (show (decide (k = 3)) = true from decide_eq_true h), kz _ _ hb fun I => ?_⟩
     clear kz Kz
     exact zret I fun Al W I => ⟨rfl, I.below⟩
 · rw [if_pos h]
   have I := Inv.start w [] True.intro
   refine a0b [.v (.agg #[.int .i64 (k : Int), .bool g, .slice p (dig B32 d).length c, .int .i64 e])] I Tryz.func99 ?_
   refine zg I (fun Al W I => (HI W).out) fun Al V Iv hzV hB Kz kz => ?_
   rintro _ W ⟨rfl, hb⟩
   refine ⟨_, congrArg (fun b => Ending.returned (.bool b)) (show (decide (k = 3)) = false from decide_eq_false h), kz _ _ hb fun I => ?_⟩
   clear kz Kz
   exact zret I fun Al W I => ⟨rfl, I.below⟩

theorem d1e (x y : Dv) (p q : Option Addr) (c d : Nat) (w : World) (hx : Bare x) (hy : Bare y) (sx : SmD x) (sy : SmD y) (hp : Rd w .u32 p (dig B32 x.m)) (hq : Rd w .u32 q (dig B32 y.m)) :
 Calls Tryz.prog 100 #[.agg #[.bool x.neg, .slice p (dig B32 x.m).length c, .int .i64 x.e], .agg #[.bool y.neg, .slice q (dig B32 y.m).length d, .int .i64 y.e]] w fun en w' => en = .returned (.int .i64 (rCmp x y)) ∧ Below w.heap.size w w' := by
 have h1 := sx.len
 have h2 := sy.len
 have h3 := sx.lo
 have h4 := sx.hi
 have h5 := sy.lo
 have h6 := sy.hi
 have := b1y x.neg y.neg p q _ c _ d x.e y.e x.m y.m w hp hq rfl rfl (by omega) (by omega) (by omega) (by omega)
 rw [show (⟨x.neg, x.m, x.e⟩ : Dv) = x from rfl, show (⟨y.neg, y.m, y.e⟩ : Dv) = y from rfl, e1m hx hy] at this
 exact this

theorem t0b (n : Int) : (if (if (n : Int) < 1 then n else 1) > (-1 : Int) then (if (n : Int) < 1 then n else 1) else -1) = clip n := by
 unfold clip
 split <;> split <;> omega

theorem a1e (f : Fm) (n way fl : Int) (a b : Vp) (ra rb : Vr) (base u : Nat) (w : World) (U : Bt w u 139 #[.int .i64 n, .int .i64 way, .int .i64 f.g.rad, .int .i64 f.g.digs, .int .i64 f.g.lo, .int .i64 f.g.hi, .bool f.g.grad, .int .u8 (famB f), .int .i64 fl]) (oa : Own w base .u32 160 a.p a.c (dig B32 a.v.d)) (ob : Own w base .u32 160 b.p b.c (dig B32 b.v.d))
 (A1 : AtV f a ra) (B1 : AtV f b rb) (hT : TabW w) :
 Calls Tryz.prog 53 #[.pointer (some ⟨u, 0, none⟩), .agg #[.int .i64 (a.v.cls : Int), .bool a.v.neg, .slice a.p (dig B32 a.v.d).length a.c, .int .i64 a.v.pow], .agg #[.int .i64 (b.v.cls : Int), .bool b.v.neg, .slice b.p (dig B32 b.v.d).length b.c, .int .i64 b.v.pow]] w fun en w' => en = .returned (.int .i64 (cmpM ra rb)) ∧ Below w.heap.size w w' := by
 have HSA := fun W => Lib.hid (u0k f a ra W A1)
 have HSB := fun W => Lib.hid (u0k f b rb W B1)
 have HA := fun W u h1 h2 h3 => Lib.hid (d1c f n way fl a.v ra a.p a.c base u W h1 h2 A1.rep A1.ok h3)
 have HB := fun W u h1 h2 h3 => Lib.hid (d1c f n way fl b.v rb b.p b.c base u W h1 h2 B1.rep B1.ok h3)
 have HC := fun W p q c d h1 h2 => Lib.hid (d1e ra.x rb.x p q c d W A1.ok.bare B1.ok.bare A1.ok.sm B1.ok.sm h1 h2)
 have hM1 : ra.side ≠ 0 ∨ rb.side ≠ 0 → cmpM ra rb = clip (ra.side - rb.side) := fun h => by unfold cmpM; rw [if_pos h]
 have hM2 : ¬ (ra.side ≠ 0 ∨ rb.side ≠ 0) → cmpM ra rb = rCmp ra.x rb.x := fun h => by unfold cmpM; rw [if_neg h]
 have hb1 : -2 ≤ ra.side ∧ ra.side ≤ 2 := by unfold Vr.side; split; omega; split <;> omega
 have hb2 : -2 ≤ rb.side ∧ rb.side ≤ 2 := by unfold Vr.side; split; omega; split <;> omega
 generalize ra.side = sa at *
 generalize rb.side = sb at *
 generalize cmpM ra rb = R at *
 generalize rCmp ra.x rb.x = RC at *
 have I := Inv.startR w [u] [⟨139, [.v (.int .i64 n), .v (.int .i64 way), .v (.int .i64 f.g.rad), .v (.int .i64 f.g.digs), .v (.int .i64 f.g.lo), .v (.int .i64 f.g.hi), .v (.bool f.g.grad), .v (.int .u8 (famB f)), .v (.int .i64 fl)], true⟩] [ownF base .u32 160 a.p a.c (dig B32 a.v.d), ownF base .u32 160 b.p b.c (dig B32 b.v.d), tabF] ⟨U, True.intro⟩ ⟨oa, ob, hT, True.intro⟩
 refine a0b [.p 0 0, .v (.agg #[.int .i64 (a.v.cls : Int), .bool a.v.neg, .slice a.p (dig B32 a.v.d).length a.c, .int .i64 a.v.pow]), .v (.agg #[.int .i64 (b.v.cls : Int), .bool b.v.neg, .slice b.p (dig B32 b.v.d).length b.c, .int .i64 b.v.pow])] I Tryz.func53 ?_
 refine zd [] I fun Al W I => ?_
 refine zk [0, 2] I fun I => ?_
 refine zo 1 I (fun I => ?_)
 refine zg I (fun Al W I => (HSA W).out) fun Al V Iv hzV hB Kz kz => ?_
 rintro _ W ⟨rfl, hb⟩
 refine ⟨_, rfl, kz _ _ hb fun I => ?_⟩
 clear kz Kz
 refine zo 3 I (fun I => ?_)
 refine zg I (fun Al W I => (HSB W).out) fun Al V Iv hzV hB Kz kz => ?_
 rintro _ W ⟨rfl, hb⟩
 refine ⟨_, rfl, kz _ _ hb fun I => ?_⟩
 clear kz Kz
 refine zk [4, 5] I fun I => ?_
 by_cases ha : sa = 0
 · by_cases hb0 : sb = 0
   · refine zb I 14 (sa != 0) (false) (bne_eq_false_iff_eq.2 ha) fun Al W I => ?_
     refine zb I 17 (sb != 0) (false) (bne_eq_false_iff_eq.2 hb0) fun Al W I => ?_
     refine zd [] I fun Al W I => ?_
     refine zk [0, 1, 3, 4] I fun I => ?_
     refine zo 2 I (fun I => ?_)
     refine zg I (fun Al W I => (HA W _ (I.box 0 139 _) I.fa.1 I.fa.2.2.1).out) fun Al V Iv hzV hB Kz kz => ?_
     rintro _ W ⟨p26, c26, rfl, o26, hb⟩
     refine ⟨_, rfl, kz _ _ hb fun I => ?_⟩
     clear kz Kz
     have I := I.own o26
     refine zo 5 I (fun I => ?_)
     refine zg I (fun Al W I => (HB W _ (I.box 0 139 _) I.fa.2.2.1 I.fa.2.2.2.1).out) fun Al V Iv hzV hB Kz kz => ?_
     rintro _ W ⟨p29, c29, rfl, o29, hb⟩
     refine ⟨_, rfl, kz _ _ hb fun I => ?_⟩
     clear kz Kz
     have I := I.own o29
     refine zo 6 I (fun I => ?_)
     refine zg I (fun Al W I => (HC W p26 p29 c26 c29 I.fa.2.1.rd I.fa.1.rd).out) fun Al V Iv hzV hB Kz kz => ?_
     rintro _ W ⟨rfl, hb⟩
     refine ⟨_, rfl, kz _ _ hb fun I => ?_⟩
     clear kz Kz
     refine zk [7] I fun I => ?_
     refine zret I (v := fun Al => .int .i64 RC) fun Al W I => ?_
     first | exact ⟨by rw [hM1 (by omega)], I.below⟩ | exact ⟨by rw [hM2 (by omega)], I.below⟩
   refine zb I 14 (sa != 0) (false) (bne_eq_false_iff_eq.2 ha) fun Al W I => ?_
   refine zb I 17 (sb != 0) (true) (bne_iff_ne.2 hb0) fun Al W I => ?_
   refine zi I 21 .i64 (sa - sb) ((sa - sb)) ((by exact IntWalk.i64_in _ (by omega))) fun Al W I => ?_
   refine zm I 22 .i64 (if ((sa - sb) : Int) < 1 then (sa - sb) else 1) ((if (sa - sb : Int) < 1 then sa - sb else 1)) (rfl) fun Al W I => ?_
   refine zm I 23 .i64 (if ((if (sa - sb : Int) < 1 then sa - sb else 1) : Int) > (-1) then (if (sa - sb : Int) < 1 then sa - sb else 1) else (-1)) ((clip (sa - sb))) ((by exact t0b _)) fun Al W I => ?_
   refine zret I (v := fun Al => .int .i64 (clip (sa - sb))) fun Al W I => ?_
   first | exact ⟨by rw [hM1 (by omega)], I.below⟩ | exact ⟨by rw [hM2 (by omega)], I.below⟩
 by_cases hb0 : sb = 0
 · refine zb I 14 (sa != 0) (true) (bne_iff_ne.2 ha) fun Al W I => ?_
   refine zi I 21 .i64 (sa - sb) ((sa - sb)) ((by exact IntWalk.i64_in _ (by omega))) fun Al W I => ?_
   refine zm I 22 .i64 (if ((sa - sb) : Int) < 1 then (sa - sb) else 1) ((if (sa - sb : Int) < 1 then sa - sb else 1)) (rfl) fun Al W I => ?_
   refine zm I 23 .i64 (if ((if (sa - sb : Int) < 1 then sa - sb else 1) : Int) > (-1) then (if (sa - sb : Int) < 1 then sa - sb else 1) else (-1)) ((clip (sa - sb))) ((by exact t0b _)) fun Al W I => ?_
   refine zret I (v := fun Al => .int .i64 (clip (sa - sb))) fun Al W I => ?_
   first | exact ⟨by rw [hM1 (by omega)], I.below⟩ | exact ⟨by rw [hM2 (by omega)], I.below⟩
 refine zb I 14 (sa != 0) (true) (bne_iff_ne.2 ha) fun Al W I => ?_
 refine zi I 21 .i64 (sa - sb) ((sa - sb)) ((by exact IntWalk.i64_in _ (by omega))) fun Al W I => ?_
 refine zm I 22 .i64 (if ((sa - sb) : Int) < 1 then (sa - sb) else 1) ((if (sa - sb : Int) < 1 then sa - sb else 1)) (rfl) fun Al W I => ?_
 refine zm I 23 .i64 (if ((if (sa - sb : Int) < 1 then sa - sb else 1) : Int) > (-1) then (if (sa - sb : Int) < 1 then sa - sb else 1) else (-1)) ((clip (sa - sb))) ((by exact t0b _)) fun Al W I => ?_
 refine zret I (v := fun Al => .int .i64 (clip (sa - sb))) fun Al W I => ?_
 first | exact ⟨by rw [hM1 (by omega)], I.below⟩ | exact ⟨by rw [hM2 (by omega)], I.below⟩

theorem r0j (n : Int) (w : World) : Calls Tryz.prog 58 #[.int .i64 n] w fun en w' => en = .returned (.tuple #[.agg #[.int .i64 (fmt n).g.rad, .int .i64 (fmt n).g.digs, .int .i64 (fmt n).g.lo, .int .i64 (fmt n).g.hi, .bool (fmt n).g.grad], .int .i64 (m0c n)]) ∧ Below w.heap.size w w' := by
 by_cases hn : IsFm n
 · have h0 : m0c n = 0 := by unfold m0c; rw [if_pos hn]
   rw [h0]
   have HF := fun W => Lib.hid (i0p n hn W)
   generalize fmt n = f at *
   have I := Inv.start w [] True.intro
   refine a0b [.v (.int .i64 n)] I Tryz.func58 ?_
   refine zg I (fun Al W I => (HF W).out) fun Al V Iv hzV hB Kz kz => ?_
   rintro _ W ⟨rfl, hb⟩
   refine ⟨_, rfl, kz _ _ hb fun I => ?_⟩
   clear kz Kz
   exact zret I fun Al W I => ⟨rfl, I.below⟩
 · have h0 : m0c n = 6 := by unfold m0c; rw [if_neg hn]
   rw [h0, z0q hn]
   have HF := fun W => Lib.hid (l0t n hn W)
   have I := Inv.start w [] True.intro
   refine a0b [.v (.int .i64 n)] I Tryz.func58 ?_
   refine zg I (fun Al W I => (HF W).out) fun Al V Iv hzV hB Kz kz => ?_
   rintro _ W ⟨rfl, hb⟩
   refine ⟨_, rfl, kz _ _ hb fun I => ?_⟩
   clear kz Kz
   exact zret I fun Al W I => ⟨rfl, I.below⟩

theorem p0i (n way : Int) (w : World) (h : ¬ (IsFm n ∧ 1 ≤ way ∧ way ≤ 5)) : Calls Tryz.prog 50 #[.int .i64 n, .int .i64 way] w fun en w' => en = .returned (.tuple #[.pointer none, .int .i64 6]) ∧ Below w.heap.size w w' := by
 have HG := fun W => Lib.hid (r0j n W)
 by_cases hn : IsFm n
 · have he : m0c n = 0 := by unfold m0c; rw [if_pos hn]
   have h' : way < 1 ∨ 5 < way := by by_cases k : 1 ≤ way ∧ way ≤ 5; exact absurd ⟨hn, k⟩ h; omega
   rw [he] at HG
   generalize fmt n = f at *
   have I := Inv.start w [] True.intro
   refine a0b [.v (.int .i64 n), .v (.int .i64 way)] I Tryz.func50 ?_
   refine zg I (fun Al W I => (HG W).out) fun Al V Iv hzV hB Kz kz => ?_
   rintro _ W ⟨rfl, hb⟩
   refine ⟨_, rfl, kz _ _ hb fun I => ?_⟩
   clear kz Kz
   by_cases h1 : way < 1
   · refine zb I 18 (decide (way < 1)) (true) (decide_eq_true h1) fun Al W I => ?_
     exact zret I fun Al W I => ⟨rfl, I.below⟩
   refine zb I 18 (decide (way < 1)) (false) (decide_eq_false h1) fun Al W I => ?_
   refine zb I 21 (decide (way > 5)) (true) (decide_eq_true (by omega)) fun Al W I => ?_
   exact zret I fun Al W I => ⟨rfl, I.below⟩
 · have he : m0c n = 6 := by unfold m0c; rw [if_neg hn]
   rw [he] at HG
   generalize fmt n = f at *
   have I := Inv.start w [] True.intro
   refine a0b [.v (.int .i64 n), .v (.int .i64 way)] I Tryz.func50 ?_
   refine zg I (fun Al W I => (HG W).out) fun Al V Iv hzV hB Kz kz => ?_
   rintro _ W ⟨rfl, hb⟩
   refine ⟨_, rfl, kz _ _ hb fun I => ?_⟩
   clear kz Kz
   exact zret I fun Al W I => ⟨rfl, I.below⟩

def m0k (f : Fm) (n way : Int) (w : World) (en : Ending) (w' : World) : Prop :=
 ∃ u, en = .returned (.tuple #[.pointer (some ⟨u, 0, none⟩), .int .i64 0]) ∧ w.heap.size ≤ u ∧ Bt w' u 139 #[.int .i64 n, .int .i64 way, .int .i64 f.g.rad, .int .i64 f.g.digs, .int .i64 f.g.lo, .int .i64 f.g.hi, .bool f.g.grad, .int .u8 (famB f), .int .i64 0] ∧ Below w.heap.size w w'
theorem m0l (n way : Int) (w : World) (hn : IsFm n) (hw : 1 ≤ way ∧ way ≤ 5) : Calls Tryz.prog 50 #[.int .i64 n, .int .i64 way] w (m0k (fmt n) n way w) := by
 have HG := fun W => Lib.hid (r0j n W)
 have he : m0c n = 0 := by unfold m0c; rw [if_pos hn]
 rw [he] at HG
 have G := f0j hn
 generalize fmt n = f at *
 have hrad := G.rad
 have hgr := G.grad
 by_cases f2 : f.fam = 2
 · have hBf : famB f = 66 := by unfold famB; rw [if_neg (by omega), if_pos f2]
   rw [if_pos f2] at hrad
   have I := Inv.start w [] True.intro
   refine a0b [.v (.int .i64 n), .v (.int .i64 way)] I Tryz.func50 ?_
   refine zg I (fun Al W I => (HG W).out) fun Al V Iv hzV hB Kz kz => ?_
   rintro _ W ⟨rfl, hb⟩
   refine ⟨_, rfl, kz _ _ hb fun I => ?_⟩
   clear kz Kz
   refine zb I 18 (decide (way < 1)) (false) (decide_eq_false (by omega)) fun Al W I => ?_
   refine zb I 21 (decide (way > 5)) (false) (decide_eq_false (by omega)) fun Al W I => ?_
   refine zb I 31 (f.g.rad == 16) (true) (beq_iff_eq.2 hrad) fun Al W I => ?_
   exact zret I (v := fun Al => .tuple #[.pointer (some ⟨(lk 0 Al 1), 0, none⟩), .int .i64 0]) fun Al W I => ⟨_, rfl, (I.geB 1), by rw [hBf]; exact (I.box 1 139 _), I.below⟩
 · rw [if_neg f2] at hrad
   by_cases f1 : f.fam = 1
   · have hBf : famB f = 65 := by unfold famB; rw [if_pos f1]
     rw [decide_eq_true f1] at hgr
     unfold m0k
     rw [hBf, hgr]
     simp only [hgr] at HG
     have I := Inv.start w [] True.intro
     refine a0b [.v (.int .i64 n), .v (.int .i64 way)] I Tryz.func50 ?_
     refine zg I (fun Al W I => (HG W).out) fun Al V Iv hzV hB Kz kz => ?_
     rintro _ W ⟨rfl, hb⟩
     refine ⟨_, rfl, kz _ _ hb fun I => ?_⟩
     clear kz Kz
     refine zb I 18 (decide (way < 1)) (false) (decide_eq_false (by omega)) fun Al W I => ?_
     refine zb I 21 (decide (way > 5)) (false) (decide_eq_false (by omega)) fun Al W I => ?_
     refine zb I 31 (f.g.rad == 16) (false) (beq_eq_false_iff_ne.2 (by omega)) fun Al W I => ?_
     exact zret I fun Al W I => ⟨_, rfl, (I.geB 1), (I.box 1 139 _), I.below⟩
   · have hBf : famB f = 67 := by unfold famB; rw [if_neg f1, if_neg f2]
     rw [decide_eq_false f1] at hgr
     unfold m0k
     rw [hBf, hgr]
     simp only [hgr] at HG
     have I := Inv.start w [] True.intro
     refine a0b [.v (.int .i64 n), .v (.int .i64 way)] I Tryz.func50 ?_
     refine zg I (fun Al W I => (HG W).out) fun Al V Iv hzV hB Kz kz => ?_
     rintro _ W ⟨rfl, hb⟩
     refine ⟨_, rfl, kz _ _ hb fun I => ?_⟩
     clear kz Kz
     refine zb I 18 (decide (way < 1)) (false) (decide_eq_false (by omega)) fun Al W I => ?_
     refine zb I 21 (decide (way > 5)) (false) (decide_eq_false (by omega)) fun Al W I => ?_
     refine zb I 31 (f.g.rad == 16) (false) (beq_eq_false_iff_ne.2 (by omega)) fun Al W I => ?_
     exact zret I fun Al W I => ⟨_, rfl, (I.geB 1), (I.box 1 139 _), I.below⟩

theorem j1h (n way fl : Int) (a : Vp) (r : Vr) (base u : Nat) (w : World) (U : Bt w u 139 #[.int .i64 n, .int .i64 way, .int .i64 (fmt n).g.rad, .int .i64 (fmt n).g.digs, .int .i64 (fmt n).g.lo, .int .i64 (fmt n).g.hi, .bool (fmt n).g.grad, .int .u8 (famB (fmt n)), .int .i64 fl]) (oa : Own w base .u32 160 a.p a.c (dig B32 a.v.d)) (hn : IsFm n) (V : VRep (fmt n) a.v r) (R : ResF (fmt n) r) (hT : TabW w) :
 Calls Tryz.prog 60 #[.pointer (some ⟨u, 0, none⟩), .agg #[.int .i64 (a.v.cls : Int), .bool a.v.neg, .slice a.p (dig B32 a.v.d).length a.c, .int .i64 a.v.pow]] w fun en w' => en = .returned (.tuple #[.string (b0s ((fmt n).strP ((fmt n).encP r.cls r.neg r.x))), .int .i64 fl, .int .i64 0]) ∧ Below w.heap.size w w' := by
 have HE := fun W (h1 : Own W base .u32 160 a.p a.c (dig B32 a.v.d)) h2 => Lib.hid (v0w n (a.v.cls : Int) (dinV a.v a.p a.c) W (g1m h1 V.len) h2)
 obtain ⟨e1, e2⟩ := j1b R V a.p a.c
 unfold s0z r0f at HE
 rw [if_pos hn, e1, e2] at HE
 simp only [if_true] at HE
 have HE2 : ∀ W, Own W base .u32 160 a.p a.c (dig B32 a.v.d) → TabW W → Hid (Calls Tryz.prog 107 #[.int .i64 n, .agg #[.int .i64 (a.v.cls : Int), .bool a.v.neg, .slice a.p (dig B32 a.v.d).length a.c, .int .i64 a.v.pow]] W fun en w' => en = .returned (.tuple #[.string (b0s ((fmt n).strP ((fmt n).encP r.cls r.neg r.x))), .int .i64 0]) ∧ Below W.heap.size W w') := HE
 clear HE e1 e2 V R
 generalize b0s ((fmt n).strP ((fmt n).encP r.cls r.neg r.x)) = s at *
 generalize fmt n = f at *
 have I := Inv.startR w [u] [⟨139, [.v (.int .i64 n), .v (.int .i64 way), .v (.int .i64 f.g.rad), .v (.int .i64 f.g.digs), .v (.int .i64 f.g.lo), .v (.int .i64 f.g.hi), .v (.bool f.g.grad), .v (.int .u8 (famB f)), .v (.int .i64 fl)], true⟩] [ownF base .u32 160 a.p a.c (dig B32 a.v.d), tabF] ⟨U, True.intro⟩ ⟨oa, hT, True.intro⟩
 refine a0b [.p 0 0, .v (.agg #[.int .i64 (a.v.cls : Int), .bool a.v.neg, .slice a.p (dig B32 a.v.d).length a.c, .int .i64 a.v.pow])] I Tryz.func60 ?_
 refine zd [] I fun Al W I => ?_
 refine zk [0, 1, 2, 3, 4] I fun I => ?_
 refine zo 5 I (fun I => ?_)
 refine zg I (fun Al W I => (HE2 W I.fa.1 I.fa.2.1).out) fun Al V Iv hzV hB Kz kz => ?_
 rintro _ W ⟨rfl, hb⟩
 refine ⟨_, rfl, kz _ _ hb fun I => ?_⟩
 clear kz Kz
 refine zk [6, 7, 8, 9, 10] I fun I => ?_
 refine zd [] I fun Al W I => ?_
 refine zk [0, 1, 2, 3, 4, 5, 6, 7] I fun I => ?_
 exact zret I fun Al W I => ⟨rfl, I.below⟩
end Go.Proofs.YtlcdfnaaenibgaaGreatDoor
namespace Go.Slip
open Go.RowKit
theorem j0w {P : Program} {w : World} {b : Nat} {t : TypeId} {vs : Array Value} (h : Bt w b t vs) {ty : TypeId} (hT : d0l P ty) {m : Nat} (v : Value) (hv : vs[m]? = some v) : (VO.ld ty (.pointer (some (at_ (some ⟨b, 0, none⟩) m)))).sem.run P w = .ok v w := by
 have := s0e h hT m v hv
 show (Instr.loadAt _ _).run P w = _
 unfold at_
 simpa using this
end Go.Slip
namespace Go.Proofs.YtlcdfnaaenibgaaGreatDoor
open Go.RowKit Go.Slip

def w0b (b : Nat) (xs : List Vp) : PF :=
 ⟨fun w => ∀ x, x ∈ xs → Own w b .u32 160 x.p x.c (dig B32 x.v.d), fun a => ∃ x, x ∈ xs ∧ x.p.isSome = true ∧ blk x.p = a, fun _ _ h hb _ x hx => (h x hx).same fun hp => hb _ ((h x hx).blk_lt hp).2 ⟨x, hx, hp, rfl⟩, fun _ _ h ⟨x, hx, hp, hf⟩ => hf ▸ ((h x hx).blk_lt hp).2⟩
theorem a1f {w : World} {b : Nat} {xs : List Vp} {v : Vl} {p : Option Addr} {c : Nat} (h : ∀ x, x ∈ xs → Own w b .u32 160 x.p x.c (dig B32 x.v.d)) (o : Own w b .u32 160 p c (dig B32 v.d)) : ∀ x, x ∈ xs ++ [⟨v, p, c⟩] → Own w b .u32 160 x.p x.c (dig B32 x.v.d) := fun x hx => by
 rw [List.mem_append, List.mem_singleton] at hx
 rcases hx with hx | rfl
 · exact h x hx
 · exact o
theorem d1f {b a : Nat} {xs : List Vp} {v : Vl} {p : Option Addr} {c : Nat} (h : (w0b b (xs ++ [⟨v, p, c⟩])).foot a) (h1 : ∀ x, (x ∈ xs ∧ x.p.isSome = true ∧ blk x.p = a) → False) (h2 : p.isSome = true → blk p = a → False) : False := by
 obtain ⟨x, hx, h3, h4⟩ := h
 rw [List.mem_append, List.mem_singleton] at hx
 rcases hx with hx | rfl
 · exact h1 x ⟨hx, h3, h4⟩
 · exact h2 h3 h4
theorem w0c : g0t Tryz.prog 73 9 (.string ByteArray.empty) 16 := tyV (by kernel_rfl) (by kernel_rfl) (by omega) rfl rfl
theorem w0d : d0l Tryz.prog 9 := c0x (by kernel_rfl) (by kernel_rfl)

def errL (n : Int) : List ByteArray → Int
 | [] => 0
 | s :: r => if a0q n s = 0 then errL n r else a0q n s
theorem t0c (n : Int) : ∀ (L : List ByteArray), errL n L ≠ 0 → ∃ (j : Nat) (s : ByteArray), L[j]? = some s ∧ errL n L = a0q n s ∧ a0q n s ≠ 0 ∧ ∀ i t, i < j → L[i]? = some t → a0q n t = 0
 | [], h => absurd rfl h
 | s :: r, h => by
  unfold errL at h ⊢
  by_cases hs : a0q n s = 0
  · rw [if_pos hs] at h ⊢
    obtain ⟨j, t, h1, h2, h3, h4⟩ := t0c n r h
    refine ⟨j + 1, t, by simpa using h1, h2, h3, fun i u hi hu => ?_⟩
    cases i with
    | zero => simp only [List.getElem?_cons_zero, Option.some.injEq] at hu; rw [← hu]; exact hs
    | succ i => exact h4 i u (by omega) (by simpa using hu)
  · rw [if_neg hs]
    exact ⟨0, s, rfl, rfl, hs, fun i t hi => by omega⟩
theorem f0z (n : Int) : ∀ {L : List ByteArray}, errL n L = 0 → ∀ s, s ∈ L → a0q n s = 0
 | [], _, s, h => by simp at h
 | t :: r, h, s, hs => by
  unfold errL at h
  by_cases ht : a0q n t = 0
  · rw [if_pos ht] at h
    rcases List.mem_cons.1 hs with rfl | hs
    · exact ht
    · exact f0z n h s hs
  · rw [if_neg ht] at h
    exact absurd h ht

def g1r (n : Int) (w : World) (L : List ByteArray) (en : Ending) (w' : World) : Prop :=
 ∃ (xs : List Vp) (vs : List Value) (p : Option Addr) (c : Nat), en = .returned (.tuple #[.slice p L.length c, .int .i64 0]) ∧ xs.map (·.v) = L.map (decP n) ∧ vs = xs.flatMap Vp.cells ∧ OwnS w' w.heap.size 70 4 p c L.length vs ∧ (∀ x, x ∈ xs → Own w' w.heap.size .u32 160 x.p x.c (dig B32 x.v.d)) ∧ Below w.heap.size w w'

theorem p0j (n way fl : Int) (L : List ByteArray) (b m u : Nat) (w : World) (U : Bt w u 139 #[.int .i64 n, .int .i64 way, .int .i64 (fmt n).g.rad, .int .i64 (fmt n).g.digs, .int .i64 (fmt n).g.lo, .int .i64 (fmt n).g.hi, .bool (fmt n).g.grad, .int .u8 (famB (fmt n)), .int .i64 fl]) (hB0 : Bt w b 9 (L.map Value.string).toArray) (hm : m = L.length) (hl : L.length ≤ 1000) (h0 : errL n L = 0) (hT : TabW w) :
 Calls Tryz.prog 51 #[.pointer (some ⟨u, 0, none⟩), .slice (some ⟨b, 0, none⟩) m m] w (g1r n w L) := by
 subst hm
 have HX : ∀ i, i < L.length → ∃ s : ByteArray, L[i]? = some s ∧ a0q n s = 0 ∧ (L.map Value.string).toArray[i]? = some (.string s) ∧ L.take (i + 1) = L.take i ++ [s] := fun i h => ⟨L[i], List.getElem?_eq_getElem h, f0z n h0 _ (List.getElem_mem h), by simp [h], by rw [List.take_add_one, List.getElem?_eq_getElem h]; rfl⟩
 have HD := fun s W h => Lib.hid (n0h n s W h)
 generalize fmt n = f at *
 have I := Inv.startW w u 139 [.v (.int .i64 n), .v (.int .i64 way), .v (.int .i64 f.g.rad), .v (.int .i64 f.g.digs), .v (.int .i64 f.g.lo), .v (.int .i64 f.g.hi), .v (.bool f.g.grad), .v (.int .u8 (famB f)), .v (.int .i64 fl)] [btF b 9 (L.map Value.string).toArray, tabF] U ⟨hB0, hT, True.intro⟩ ⟨fun hf => hB0.far U (by kernel_rfl) hf, fun hf => hT.far U (by kernel_rfl) hf, True.intro⟩
 refine a0b [.p 0 0, .v (.slice (some ⟨b, 0, none⟩) L.length L.length)] I Tryz.func51 ?_
 have I := I.add (g0w w.heap.size 70 4 none 0 0 []) (OwnS.nil _ _ _ _) (fun _ _ h => by cases h.1)
 have I := I.add (w0b w.heap.size []) (fun _ h => by cases h) (fun _ _ ⟨_, h, _⟩ => by cases h)
 refine q0j I (fun gk fr bx gs => ∃ (U900 : Nat → Value) (i : Nat) (p6 : Option Addr) (c6 : Nat) (xs : List Vp) (vs : List Value), fr = (.p 0 0 :: .v (.slice (some ⟨b, 0, none⟩) L.length L.length) :: su 2 (sw U900 4 2 (.v (.slice p6 i c6) :: .v undef :: sw U900 8 3 (.v (.slice (some ⟨b, 0, none⟩) L.length L.length) :: .v (.int .i64 (L.length : Int)) :: .v (.int .i64 (i : Int)) :: sw U900 14 21 []))) : List SV) ∧ bx = [⟨139, [.v (.int .i64 n), .v (.int .i64 way), .v (.int .i64 f.g.rad), .v (.int .i64 f.g.digs), .v (.int .i64 f.g.lo), .v (.int .i64 f.g.hi), .v (.bool f.g.grad), .v (.int .u8 (famB f)), .v (.int .i64 fl)], false⟩] ∧ gs = [w0b w.heap.size xs, g0w w.heap.size 70 4 p6 c6 i vs, btF b 9 (L.map Value.string).toArray, tabF] ∧ (gk + i = L.length) ∧ (vs = xs.flatMap Vp.cells) ∧ (xs.map (·.v) = (L.take i).map (decP n))) L.length (fun Al W U I => ⟨_, ⟨U, 0, none, 0, [], [], rfl, rfl, rfl, (by omega), rfl, rfl⟩, I.pick [0, 1, 2, 3]⟩) ?_
 rintro J gk0 _ _ _ ⟨U900, i, p6, c6, xs, vs, rfl, rfl, rfl, hgk, hvs, hxs⟩ hJ Al W I
 rcases Bool.eq_false_or_eq_true (decide ((i : Int) < (L.length : Int))) with f14 | f14
 · refine zb I 14 (decide ((i : Int) < (L.length : Int))) (true) (f14) fun Al W I => ?_
   obtain ⟨s, hs, hse, hsv, hst⟩ := HX i (by have := of_decide_eq_true f14; omega)
   refine zx I 15 (fun _ => .pointer (some (at_ (some ⟨b, 0, none⟩) i))) (fun Al W I => (g0u (m := i) (n := L.length) (c := L.length) w0c (fun _ => ⟨rfl, rfl⟩) (by have := of_decide_eq_true f14; omega))) fun Al W I => ?_
   refine zx I 16 (fun _ => .string s) (fun Al W I => (j0w I.fa.2.2.1 w0d _ hsv)) fun Al W I => ?_
   refine zg I (fun Al W I => (HD s W I.fa.2.2.2.1).out) fun Al V Iv hzV hB Kz kz => ?_
   rintro _ W ⟨p23, c23, rfl, o23, hb⟩
   refine ⟨_, rfl, kz _ _ hb fun I => ?_⟩
   clear kz Kz
   have I := I.own o23
   refine zb I 27 ((a0q n s) != 0) (false) (bne_eq_false_iff_eq.2 hse) fun Al W I => ?_
   have I := I.pick [2, 0, 1, 3, 4]
   refine zap I e0t 2 1 (fun Al => [.int .i64 (((decP n s).cls : Nat) : Int), .bool ((decP n s).neg), .slice p23 (dig B32 (decP n s).d).length c23, .int .i64 ((decP n s).pow)]) (fun Al W I => I.box 2 70 _) (by omega) (fun Al W I hp => ⟨I.fa.1.apart I.fa.2.1 (by kernel_rfl) hp, fun ⟨x, hx, h⟩ => I.fa.1.apart (I.fa.2.2.1 x hx) (by kernel_rfl) hp h, fun e => I.fa.1.far I.fa.2.2.2.1 (by kernel_rfl) hp (Eq.symm e), fun e => by have h1 := (I.fa.1.blk_lt hp).1; have h2 := hT.2; have e : 0 = _ := e; omega, True.intro⟩) fun Al W p32 c32 hq_32 I => ?_
   have I := I.add (w0b w.heap.size (xs ++ [(⟨decP n s, p23, c23⟩ : Vp)])) (a1f I.fa.2.2.1 I.fa.2.1) (fun a ha h => d1f h ((fun a ha h0 e => (I.far a ha).2.2.1 ⟨h0, e⟩) a ha) ((fun a ha h0 e => (I.far a ha).2.1 ⟨h0, e⟩) a ha))
   refine zi I 33 .i64 ((i : Int) + 1) (((i + 1 : Nat) : Int)) ((by rw [show ((i : Int) + 1) = ((i + 1 : Nat) : Int) by omega]; exact IntWalk.i64_in _ (by have := of_decide_eq_true f14; omega))) fun Al W I => ?_
   exact n0n 1 I J fun Al W U I => hJ (gk0 - 1) _ _ _ _ _ ((by have := of_decide_eq_true f14; omega)) ⟨U, i + 1, p32, c32, xs ++ [(⟨decP n s, p23, c23⟩ : Vp)], _, rfl, rfl, rfl, (by have := of_decide_eq_true f14; omega), (by rw [hvs, List.flatMap_append]; rfl), (by rw [hst, List.map_append, List.map_append, hxs]; rfl)⟩ (I.pick [0, 1, 4, 5])
 refine zb I 14 (decide ((i : Int) < (L.length : Int))) (false) (f14) fun Al W I => ?_
 have hi : i = L.length := by have := of_decide_eq_false f14; omega
 exact zret I (v := fun Al => .tuple #[.slice p6 i c6, .int .i64 0]) fun Al W I => ⟨xs, vs, p6, c6, by rw [hi], by rw [hxs, hi, List.take_length], hvs, hi ▸ I.fa.2.1, I.fa.1, I.bel.toBelow U (I.boxE 139 _)⟩

theorem _root_.Go.Slip.Inv.ownl {E : List Nat} {w0 : World} {A : List Nat} {bx : List Box} {fs : List PF} {W : World} (I : Inv E w0 A bx fs W) {b : Nat} {xs : List Vp} (o : ∀ x, x ∈ xs → Own W b .u32 160 x.p x.c (dig B32 x.v.d)) (hb : w0.heap.size ≤ b := by first | exact Nat.le_refl _ | assumption | omega) (hne : q0l 160 bx = true := by kernel_rfl) :
 Inv E w0 A bx (w0b w0.heap.size xs :: fs) W :=
 I.add (w0b w0.heap.size xs) (fun x hx => (o x hx).mono hb) fun a ha ⟨x, hx, hf1, hf2⟩ => by
  obtain ⟨j, hj, _, rfl⟩ := ha
  exact (o x hx).far (I.bt j hj) (f0v hne j hj) hf1 hf2

theorem k0h (n way fl : Int) (L : List ByteArray) (b m u : Nat) (w : World) (U : Bt w u 139 #[.int .i64 n, .int .i64 way, .int .i64 (fmt n).g.rad, .int .i64 (fmt n).g.digs, .int .i64 (fmt n).g.lo, .int .i64 (fmt n).g.hi, .bool (fmt n).g.grad, .int .u8 (famB (fmt n)), .int .i64 fl]) (hB0 : Bt w b 9 (L.map Value.string).toArray) (hm : m = L.length) (hl : L.length ≤ 1000) (h0 : errL n L ≠ 0) (hT : TabW w) :
 Calls Tryz.prog 51 #[.pointer (some ⟨u, 0, none⟩), .slice (some ⟨b, 0, none⟩) m m] w fun en w' => en = .returned (.tuple #[.slice none 0 0, .int .i64 (errL n L)]) ∧ Below w.heap.size w w' := by
 subst hm
 obtain ⟨j, sj, hj, he, hne, hlt⟩ := t0c n L h0
 have hjl : j < L.length := (List.getElem?_eq_some_iff.1 hj).1
 rw [he]
 have HX : ∀ i, i < L.length → ∃ s : ByteArray, (L.map Value.string).toArray[i]? = some (.string s) ∧ (i < j → a0q n s = 0) ∧ (i = j → a0q n s = a0q n sj) := fun i h => ⟨L[i], by simp [h], fun k => hlt i _ k (List.getElem?_eq_getElem h), fun k => by subst k; rw [List.getElem?_eq_getElem h] at hj; cases hj; rfl⟩
 have HD := fun s W h => Lib.hid (n0h n s W h)
 clear he h0 hlt hj
 generalize a0q n sj = er at *
 generalize fmt n = f at *
 have I := Inv.startW w u 139 [.v (.int .i64 n), .v (.int .i64 way), .v (.int .i64 f.g.rad), .v (.int .i64 f.g.digs), .v (.int .i64 f.g.lo), .v (.int .i64 f.g.hi), .v (.bool f.g.grad), .v (.int .u8 (famB f)), .v (.int .i64 fl)] [btF b 9 (L.map Value.string).toArray, tabF] U ⟨hB0, hT, True.intro⟩ ⟨fun hf => hB0.far U (by kernel_rfl) hf, fun hf => hT.far U (by kernel_rfl) hf, True.intro⟩
 refine a0b [.p 0 0, .v (.slice (some ⟨b, 0, none⟩) L.length L.length)] I Tryz.func51 ?_
 have I := I.add (g0w w.heap.size 70 4 none 0 0 []) (OwnS.nil _ _ _ _) (fun _ _ h => by cases h.1)
 refine q0j I (fun gk fr bx gs => ∃ (U900 : Nat → Value) (i : Nat) (p6 : Option Addr) (c6 : Nat) (vs : List Value), fr = (.p 0 0 :: .v (.slice (some ⟨b, 0, none⟩) L.length L.length) :: su 2 (sw U900 4 2 (.v (.slice p6 i c6) :: .v undef :: sw U900 8 3 (.v (.slice (some ⟨b, 0, none⟩) L.length L.length) :: .v (.int .i64 (L.length : Int)) :: .v (.int .i64 (i : Int)) :: sw U900 14 21 []))) : List SV) ∧ bx = [⟨139, [.v (.int .i64 n), .v (.int .i64 way), .v (.int .i64 f.g.rad), .v (.int .i64 f.g.digs), .v (.int .i64 f.g.lo), .v (.int .i64 f.g.hi), .v (.bool f.g.grad), .v (.int .u8 (famB f)), .v (.int .i64 fl)], false⟩] ∧ gs = [g0w w.heap.size 70 4 p6 c6 i vs, btF b 9 (L.map Value.string).toArray, tabF] ∧ (gk + i = L.length) ∧ (i ≤ j)) L.length (fun Al W U I => ⟨_, ⟨U, 0, none, 0, [], rfl, rfl, rfl, (by omega), (by omega)⟩, I.pick [0, 1, 2]⟩) ?_
 rintro J gk0 _ _ _ ⟨U900, i, p6, c6, vs, rfl, rfl, rfl, hgk, hij⟩ hJ Al W I
 rcases Bool.eq_false_or_eq_true (decide ((i : Int) < (L.length : Int))) with f14 | f14
 · refine zb I 14 (decide ((i : Int) < (L.length : Int))) (true) (f14) fun Al W I => ?_
   obtain ⟨s, hsv, hs0, hse⟩ := HX i (by have := of_decide_eq_true f14; omega)
   refine zx I 15 (fun _ => .pointer (some (at_ (some ⟨b, 0, none⟩) i))) (fun Al W I => (g0u (m := i) (n := L.length) (c := L.length) w0c (fun _ => ⟨rfl, rfl⟩) (by have := of_decide_eq_true f14; omega))) fun Al W I => ?_
   refine zx I 16 (fun _ => .string s) (fun Al W I => (j0w I.fa.2.1 w0d _ hsv)) fun Al W I => ?_
   refine zg I (fun Al W I => (HD s W I.fa.2.2.1).out) fun Al V Iv hzV hB Kz kz => ?_
   rintro _ W ⟨p23, c23, rfl, o23, hb⟩
   refine ⟨_, rfl, kz _ _ hb fun I => ?_⟩
   clear kz Kz
   have I := I.own o23
   by_cases hij2 : i = j
   · refine zb I 27 ((a0q n s) != 0) (true) (bne_iff_ne.2 (by rw [hse hij2]; exact hne)) fun Al W I => ?_
     exact zret I (v := fun Al => .tuple #[.slice none 0 0, .int .i64 (a0q n s)]) fun Al W I => ⟨by rw [hse hij2], I.bel.toBelow U (I.boxE 139 _)⟩
   refine zb I 27 ((a0q n s) != 0) (false) (bne_eq_false_iff_eq.2 (hs0 (by omega))) fun Al W I => ?_
   have I := I.pick [1, 0, 2, 3]
   refine zap I e0t 2 1 (fun Al => [.int .i64 (((decP n s).cls : Nat) : Int), .bool ((decP n s).neg), .slice p23 (dig B32 (decP n s).d).length c23, .int .i64 ((decP n s).pow)]) (fun Al W I => I.box 2 70 _) (by omega) (fun Al W I hp => ⟨I.fa.1.apart I.fa.2.1 (by kernel_rfl) hp, fun e => I.fa.1.far I.fa.2.2.1 (by kernel_rfl) hp (Eq.symm e), fun e => by have h1 := (I.fa.1.blk_lt hp).1; have h2 := hT.2; have e : 0 = _ := e; omega, True.intro⟩) fun Al W p32 c32 hq_32 I => ?_
   refine zi I 33 .i64 ((i : Int) + 1) (((i + 1 : Nat) : Int)) ((by rw [show ((i : Int) + 1) = ((i + 1 : Nat) : Int) by omega]; exact IntWalk.i64_in _ (by have := of_decide_eq_true f14; omega))) fun Al W I => ?_
   exact n0n 1 I J fun Al W U I => hJ (gk0 - 1) _ _ _ _ _ ((by have := of_decide_eq_true f14; omega)) ⟨U, i + 1, p32, c32, _, rfl, rfl, rfl, (by have := of_decide_eq_true f14; omega), (by omega)⟩ (I.pick [0, 2, 3])
 refine zb I 14 (decide ((i : Int) < (L.length : Int))) (false) (f14) fun Al W I => ?_
 exact zret I (v := fun Al => .tuple #[.slice p6 i c6, .int .i64 0]) fun Al W I => absurd (of_decide_eq_false f14) (by rw [Classical.not_not]; omega)
end Go.Proofs.YtlcdfnaaenibgaaGreatDoor
namespace Go.Slip
open Go.RowKit
end Go.Slip
namespace Go.Proofs.YtlcdfnaaenibgaaGreatDoor
open Go.RowKit Go.Slip

structure Wp where
 r : Vr
 p : Option Addr
 c : Nat
def Wp.cells (x : Wp) : List Value := [.int .i64 (x.r.cls : Int), .bool x.r.neg, .bool x.r.x.neg, .slice x.p (dig B16 x.r.x.m).length x.c, .int .i64 x.r.x.e]
theorem Wp.len (x : Wp) : x.cells.length = 5 := rfl
theorem tvV : v0y Tryz.prog 25 32 5 56 := u0j (z := .agg #[.int .i64 0, .bool false, .bool false, .slice none 0 0, .int .i64 0]) (by kernel_rfl) (by kernel_rfl) (by kernel_rfl) (by kernel_rfl) (by kernel_rfl)
theorem agV : d0p Tryz.prog 32 5 := c0h (by kernel_rfl) (by kernel_rfl)

def errR (n way : Int) (L : List ByteArray) : Int := if IsFm n then (if errL n L = 0 then (if 1 ≤ way ∧ way ≤ 5 then 0 else 6) else errL n L) else 6
def j1i (n way : Int) (L : List ByteArray) (fn : FuncId) (R : Vr × Nat) : Prop :=
 ∀ (xs : List Vp) (vs : List Value) (p : Option Addr) (c base u : Nat) (W : World), xs.map (·.v) = L.map (decP n) → vs = xs.flatMap Vp.cells → OwnS W base 70 4 p c L.length vs → (∀ x, x ∈ xs → Own W base .u32 160 x.p x.c (dig B32 x.v.d)) →
  Bt W u 139 #[.int .i64 n, .int .i64 way, .int .i64 (fmt n).g.rad, .int .i64 (fmt n).g.digs, .int .i64 (fmt n).g.lo, .int .i64 (fmt n).g.hi, .bool (fmt n).g.grad, .int .u8 (famB (fmt n)), .int .i64 0] → TabW W → base ≤ W.heap.size →
  Calls Tryz.prog fn #[.pointer (some ⟨u, 0, none⟩), .slice p L.length c] W (g0j (fmt n) n way u W base R)

def strR (n : Int) (r : Vr) : ByteArray := b0s ((fmt n).strP ((fmt n).encP r.cls r.neg r.x))

theorem j1j (n way : Int) (L : List ByteArray) (fn : FuncId) (R : Vr × Nat) (b m : Nat) (w : World) (hB0 : Bt w b 9 (L.map Value.string).toArray) (hm : m = L.length) (hl : L.length ≤ 1000) (hT : TabW w)
 (hfn : ∀ args w, (callFunc fn args).run Tryz.prog w = .ok (.enter fn args) w) (h0 : errR n way L = 0) (HD : j1i n way L fn R) (HR : ResF (fmt n) R.1) :
 Calls Tryz.prog 32 #[.int .i64 n, .int .i64 way, .func (.func fn) #[] #[], .slice (some ⟨b, 0, none⟩) m m] w fun en w' => en = .returned (.tuple #[.string (strR n R.1), .int .i64 ((R.2 : Nat) : Int), .int .i64 0]) ∧ Below w.heap.size w w' := by
 subst hm
 have hn : IsFm n := by unfold errR at h0; split at h0; assumption; omega
 unfold errR at h0
 rw [if_pos hn] at h0
 have hL : errL n L = 0 := by split at h0; assumption; contradiction
 rw [if_pos hL] at h0
 have hw : 1 ≤ way ∧ way ≤ 5 := by split at h0; assumption; omega
 clear h0
 obtain ⟨r, fl⟩ := R
 simp only at HR ⊢
 have HO1 := fun W => Lib.hid (m0l n 1 W hn (by omega))
 have HO2 := fun W => Lib.hid (m0l n way W hn hw)
 have HDe := fun W u h1 h2 h3 => Lib.hid (p0j n 1 0 L b L.length u W h1 h2 rfl hl hL h3)
 have HDo := fun xs vs p c base u W h1 h2 h3 h4 h5 h6 h7 => Lib.hid (HD xs vs p c base u W h1 h2 h3 h4 h5 h6 h7)
 have HT := fun W (v : Vl) p c base u h1 h2 h3 h4 => Lib.hid (j1h n way (fl : Int) ⟨v, p, c⟩ r base u W h1 h2 hn h3 HR h4)
 have hs : strR n r = b0s ((fmt n).strP ((fmt n).encP r.cls r.neg r.x)) := rfl
 rw [← hs] at HT
 clear hs
 generalize strR n r = s at *
 generalize fmt n = f at *
 have I := Inv.start w [btF b 9 (L.map Value.string).toArray, tabF] ⟨hB0, hT, True.intro⟩
 refine a0b [.v (.int .i64 n), .v (.int .i64 way), .v (.func (.func fn) #[] #[]), .v (.slice (some ⟨b, 0, none⟩) L.length L.length)] I Tryz.func32 ?_
 refine zg I (fun Al W I => (HO1 W).out) fun Al V Iv hzV hB Kz kz => ?_
 rintro _ W ⟨u16, rfl, hge, hB, hb⟩
 refine ⟨_, rfl, kz _ _ hb fun I => ?_⟩
 clear kz Kz
 refine v0z Iv hb 0 u16 139 [(.int .i64 n), (.int .i64 1), (.int .i64 f.g.rad), (.int .i64 f.g.digs), (.int .i64 f.g.lo), (.int .i64 f.g.hi), (.bool f.g.grad), (.int .u8 (famB f)), (.int .i64 0)] hge hB fun Al hAl_16 I => ?_
 refine w0a I 17 0 u16 hAl_16 fun Al W I => ?_
 refine zg I (fun Al W I => (HDe W _ (I.box 0 139 _) I.fa.1 I.fa.2.1).out) fun Al V Iv hzV hB Kz kz => ?_
 rintro _ W ⟨xs, vs, p25, c25, rfl, hxs, hvs, oS, oL, hb⟩
 refine ⟨_, rfl, kz _ _ hb fun I => ?_⟩
 clear kz Kz
 have I := I.owns oS
 have I := I.ownl oL
 refine zg I (fun Al W I => (HO2 W).out) fun Al V Iv hzV hB Kz kz => ?_
 rintro _ W ⟨u34, rfl, hge, hB, hb⟩
 refine ⟨_, rfl, kz _ _ hb fun I => ?_⟩
 clear kz Kz
 refine v0z Iv hb 1 u34 139 [(.int .i64 n), (.int .i64 way), (.int .i64 f.g.rad), (.int .i64 f.g.digs), (.int .i64 f.g.lo), (.int .i64 f.g.hi), (.bool f.g.grad), (.int .u8 (famB f)), (.int .i64 0)] hge hB fun Al hAl_34 I => ?_
 refine w0a I 35 1 u34 hAl_34 fun Al W I => ?_
 refine zgfe (hf := hfn) I 1 139 (fun Al W I => (HDo xs vs p25 c25 _ _ W hxs hvs I.fa.2.1 I.fa.1 (I.box 1 139 _) I.fa.2.2.2.1 I.bel.size).out) fun Al V Iv hzV Kz kz => ?_
 rintro _ W ⟨v44, hR44, p44, c44, rfl, o44, hO, hB⟩
 refine ⟨_, rfl, kz _ [.v (.int .i64 n), .v (.int .i64 way), .v (.int .i64 f.g.rad), .v (.int .i64 f.g.digs), .v (.int .i64 f.g.lo), .v (.int .i64 f.g.hi), .v (.bool f.g.grad), .v (.int .u8 (famB f)), .v (.int .i64 (fl : Int))] _ hO hB fun I => ?_⟩
 clear kz Kz
 have I := I.own o44
 refine zg I (fun Al W I => (HT W v44 p44 c44 _ _ (I.box 1 139 _) I.fa.1 hR44 I.fa.2.2.2.2.1).out) fun Al V Iv hzV hB Kz kz => ?_
 rintro _ W ⟨rfl, hb⟩
 refine ⟨_, rfl, kz _ _ hb fun I => ?_⟩
 clear kz Kz
 exact zret I fun Al W I => ⟨rfl, I.below⟩

theorem g1s (n way : Int) (L : List ByteArray) (fn : FuncId) (b m : Nat) (w : World) (hB0 : Bt w b 9 (L.map Value.string).toArray) (hm : m = L.length) (hl : L.length ≤ 1000) (hT : TabW w) (h0 : errR n way L ≠ 0) :
 Calls Tryz.prog 32 #[.int .i64 n, .int .i64 way, .func (.func fn) #[] #[], .slice (some ⟨b, 0, none⟩) m m] w fun en w' => en = .returned (.tuple #[.string (b0s []), .int .i64 0, .int .i64 (errR n way L)]) ∧ Below w.heap.size w w' := by
 subst hm
 unfold errR at h0 ⊢
 by_cases hn : IsFm n
 · rw [if_pos hn] at h0 ⊢
   have HO1 := fun W => Lib.hid (m0l n 1 W hn (by omega))
   by_cases hL : errL n L = 0
   · rw [if_pos hL] at h0 ⊢
     have hw : ¬ (1 ≤ way ∧ way ≤ 5) := fun h => h0 (if_pos h)
     rw [if_neg hw]
     have HO2 := fun W => Lib.hid (p0i n way W (fun h => hw h.2))
     have HDe := fun W u h1 h2 h3 => Lib.hid (p0j n 1 0 L b L.length u W h1 h2 rfl hl hL h3)
     generalize fmt n = f at *
     have I := Inv.start w [btF b 9 (L.map Value.string).toArray, tabF] ⟨hB0, hT, True.intro⟩
     refine a0b [.v (.int .i64 n), .v (.int .i64 way), .v (.func (.func fn) #[] #[]), .v (.slice (some ⟨b, 0, none⟩) L.length L.length)] I Tryz.func32 ?_
     refine zg I (fun Al W I => (HO1 W).out) fun Al V Iv hzV hB Kz kz => ?_
     rintro _ W ⟨u16, rfl, hge, hB, hb⟩
     refine ⟨_, rfl, kz _ _ hb fun I => ?_⟩
     clear kz Kz
     refine v0z Iv hb 0 u16 139 [(.int .i64 n), (.int .i64 1), (.int .i64 f.g.rad), (.int .i64 f.g.digs), (.int .i64 f.g.lo), (.int .i64 f.g.hi), (.bool f.g.grad), (.int .u8 (famB f)), (.int .i64 0)] hge hB fun Al hAl_16 I => ?_
     refine w0a I 17 0 u16 hAl_16 fun Al W I => ?_
     refine zg I (fun Al W I => (HDe W _ (I.box 0 139 _) I.fa.1 I.fa.2.1).out) fun Al V Iv hzV hB Kz kz => ?_
     rintro _ W ⟨xs, vs, p25, c25, rfl, hxs, hvs, oS, oL, hb⟩
     refine ⟨_, rfl, kz _ _ hb fun I => ?_⟩
     clear kz Kz
     have I := I.owns oS
     have I := I.ownl oL
     refine zg I (fun Al W I => (HO2 W).out) fun Al V Iv hzV hB Kz kz => ?_
     rintro _ W ⟨rfl, hb⟩
     refine ⟨_, rfl, kz _ _ hb fun I => ?_⟩
     clear kz Kz
     exact zret I fun Al W I => ⟨rfl, I.below⟩
   · rw [if_neg hL] at h0 ⊢
     have HDe := fun W u h1 h2 h3 => Lib.hid (k0h n 1 0 L b L.length u W h1 h2 rfl hl hL h3)
     generalize errL n L = er at *
     generalize fmt n = f at *
     have I := Inv.start w [btF b 9 (L.map Value.string).toArray, tabF] ⟨hB0, hT, True.intro⟩
     refine a0b [.v (.int .i64 n), .v (.int .i64 way), .v (.func (.func fn) #[] #[]), .v (.slice (some ⟨b, 0, none⟩) L.length L.length)] I Tryz.func32 ?_
     refine zg I (fun Al W I => (HO1 W).out) fun Al V Iv hzV hB Kz kz => ?_
     rintro _ W ⟨u16, rfl, hge, hB, hb⟩
     refine ⟨_, rfl, kz _ _ hb fun I => ?_⟩
     clear kz Kz
     refine v0z Iv hb 0 u16 139 [(.int .i64 n), (.int .i64 1), (.int .i64 f.g.rad), (.int .i64 f.g.digs), (.int .i64 f.g.lo), (.int .i64 f.g.hi), (.bool f.g.grad), (.int .u8 (famB f)), (.int .i64 0)] hge hB fun Al hAl_16 I => ?_
     refine w0a I 17 0 u16 hAl_16 fun Al W I => ?_
     refine zg I (fun Al W I => (HDe W _ (I.box 0 139 _) I.fa.1 I.fa.2.1).out) fun Al V Iv hzV hB Kz kz => ?_
     rintro _ W ⟨rfl, hb⟩
     refine ⟨_, rfl, kz _ _ hb fun I => ?_⟩
     clear kz Kz
     refine zb I 29 (er != 0) (true) (bne_iff_ne.2 hL) fun Al W I => ?_
     exact zret I fun Al W I => ⟨rfl, I.below⟩
 · rw [if_neg hn]
   have HO1 := fun W => Lib.hid (p0i n 1 W (fun h => hn h.1))
   have I := Inv.start w [] True.intro
   refine a0b [.v (.int .i64 n), .v (.int .i64 way), .v (.func (.func fn) #[] #[]), .v (.slice (some ⟨b, 0, none⟩) L.length L.length)] I Tryz.func32 ?_
   refine zg I (fun Al W I => (HO1 W).out) fun Al V Iv hzV hB Kz kz => ?_
   rintro _ W ⟨rfl, hb⟩
   refine ⟨_, rfl, kz _ _ hb fun I => ?_⟩
   clear kz Kz
   exact zret I fun Al W I => ⟨rfl, I.below⟩

structure VrF (f : Fm) (r : Vr) : Prop where
 ok : VrOk r
 inf : r.cls = 3 → f.fam = 1
def refD (n : Int) (s : ByteArray) : Vr := (fmt n).refN (a0s (fmt n) s)

theorem j1k {f : Fm} (G : c0t f) (neg : Bool) {e frac : Nat} (h : e < 2 ^ f.E) : (f.dec neg e frac).p = 0 ∨ (f.g.lo ≤ (f.dec neg e frac).p ∧ (f.dec neg e frac).p ≤ f.g.hi + 1) := by
 have h3 := G.hi1
 have h4 := G.hi2
 have h5 := G.hi3
 have h6 := G.fam
 have gg := (c0g G.g).le
 have e1 := G.e1
 have hE1 : (2 : Nat) ^ 7 ≤ 2 ^ f.E := Nat.pow_le_pow_right (by omega) e1
 unfold Fm.dec
 generalize 2 ^ f.E = T at *
 repeat' split
 all_goals first | exact .inl rfl | (right; simp only; omega)
theorem g1t {f : Fm} (neg : Bool) {e frac : Nat} (h : (f.dec neg e frac).c = 3) : f.fam = 1 := by
 have h : (f.dec neg e frac).cls = 3 := by
  unfold Dc.c at h
  split at h <;> omega
 unfold Fm.dec at h
 split at h
 · simp at h
 · split at h
   · rename_i k
     exact k.1
   · split at h
     · split at h <;> simp at h
     · split at h
       · simp at h
       · split at h
         · simp at h
         · split at h <;> simp at h

theorem m0m {n : Int} {s : ByteArray} (hn : IsFm n) : VrF (fmt n) (refD n s) := by
 have G := f0j hn
 have GG := c0g G.g
 obtain ⟨w1, w2, w3⟩ := n0b G.g
 have he : (fmt n).exp (a0s (fmt n) s) < 2 ^ (fmt n).E := Nat.mod_lt _ (Nat.pow_pos (by omega))
 have hx : (fmt n).frac (a0s (fmt n) s) < 2 ^ (fmt n).F := Nat.mod_lt _ (Nat.pow_pos (by omega))
 have hm := e1z (f := fmt n) ((fmt n).neg (a0s (fmt n) s)) (e := (fmt n).exp (a0s (fmt n) s)) hx
 have hp := j1k G ((fmt n).neg (a0s (fmt n) s)) (frac := (fmt n).frac (a0s (fmt n) s)) he
 have hi := fun h => g1t (f := fmt n) ((fmt n).neg (a0s (fmt n) s)) (e := (fmt n).exp (a0s (fmt n) s)) (frac := (fmt n).frac (a0s (fmt n) s)) h
 have hcls := x0x (fmt n) ((fmt n).neg (a0s (fmt n) s)) ((fmt n).exp (a0s (fmt n) s)) ((fmt n).frac (a0s (fmt n) s))
 have z2 := G.f2
 unfold refD Fm.refN Fm.decN
 generalize (fmt n).dec ((fmt n).neg (a0s (fmt n) s)) ((fmt n).exp (a0s (fmt n) s)) ((fmt n).frac (a0s (fmt n) s)) = D at *
 generalize (fmt n).neg (a0s (fmt n) s) = g at *
 generalize fmt n = f at *
 have hc : 1 ≤ D.c ∧ D.c ≤ 5 := by unfold Dc.c; split <;> omega
 have hml : (dig B32 D.m).length ≤ 3 := a0p hm (by omega)
 have wp := b0n f.g
 have hwp : -17010 ≤ (wid f.g : Int) * D.p ∧ (wid f.g : Int) * D.p ≤ 17010 := by
  rcases hp with h | ⟨h1, h2⟩
  · rw [h, Int.mul_zero]; omega
  · have a1 : (wid f.g : Int) * f.g.lo ≤ wid f.g * D.p := Int.mul_le_mul_of_nonneg_left h1 (by omega)
    have a2 : (wid f.g : Int) * D.p ≤ wid f.g * (f.g.hi + 1) := Int.mul_le_mul_of_nonneg_left h2 (by omega)
    rw [Int.mul_add, Int.mul_one] at a2
    omega
 refine ⟨⟨hc, fun h => ?_, fun h => ?_, ?_, ?_, ?_, ?_⟩, hi⟩
 · have h : ¬ D.c = 2 := h
   unfold Fm.vr
   simp only [if_neg h]
   rfl
 · have h : D.c = 2 := h
   have hm0 := d1o h
   unfold Fm.vr
   simp only [h, if_true]
   obtain ⟨b1, b2⟩ := p0g (g := g) (e := (wid f.g : Int) * D.p) hm0
   exact ⟨b2, by rw [b1]; rfl⟩
 · unfold Fm.vr
   simp only
   split
   · exact i0g _
   · exact .inr rfl
 · unfold Fm.vr
   simp only
   split
   · exact Nat.le_trans (o0b a0a _) (by show (dig B32 D.m).length ≤ _; omega)
   · show (dig B32 0).length ≤ _; rw [a0c]; decide
 · unfold Fm.vr
   simp only
   split
   · have := x0f (⟨g, D.m, wid f.g * D.p⟩ : Dv) (n := 3) hml (lo := -17100) (hi := 17100) (by simp only; omega) (by simp only; omega) (by omega) (by omega)
     omega
   · show (-18000 : Int) ≤ 0; decide
 · unfold Fm.vr
   simp only
   split
   · have := x0f (⟨g, D.m, wid f.g * D.p⟩ : Dv) (n := 3) hml (lo := -17100) (hi := 17100) (by simp only; omega) (by simp only; omega) (by omega) (by omega)
     omega
   · show (0 : Int) ≤ 18000; decide

theorem d1g {n : Int} {s : ByteArray} (h0 : a0q n s = 0) : VRep (fmt n) (decP n s) (refD n s) := by
 obtain ⟨hn, hs⟩ := c0v.1 h0
 have G := f0j hn
 have hd : decP n s = (fmt n).valN (a0s (fmt n) s) := by unfold decP; rw [if_pos h0]
 have he : (fmt n).exp (a0s (fmt n) s) < 2 ^ (fmt n).E := Nat.mod_lt _ (Nat.pow_pos (by omega))
 have hx : (fmt n).frac (a0s (fmt n) s) < 2 ^ (fmt n).F := Nat.mod_lt _ (Nat.pow_pos (by omega))
 have hb := j1r G ((fmt n).neg (a0s (fmt n) s)) he hx ((fmt n).neg (a0s (fmt n) s))
 have hk := b1j (fmt n) ((fmt n).neg (a0s (fmt n) s)) ((fmt n).decN (a0s (fmt n) s))
 have ho := b1k (fmt n) ((fmt n).neg (a0s (fmt n) s)) ((fmt n).decN (a0s (fmt n) s))
 rw [hd]
 exact ⟨rfl, rfl, fun _ => hk, fun h => ho h, hb.1, hb.2.1, hb.2.2⟩
theorem u0l {n : Int} {s : ByteArray} (h0 : a0q n s = 0) {x : Vp} (hx : x.v = decP n s) : AtV (fmt n) x (refD n s) := by
 have F := m0m (s := s) (c0v.1 h0).1
 exact ⟨by rw [hx]; exact d1g h0, F.ok, F.inf⟩

/-! ### Results -/
theorem j1l {f : Fm} (G : c0t f) (x : Dv) (way : Int) : ResF f (f.numM x way).1 := by
 unfold Fm.numM
 split
 · exact p0h G _
 · exact (n0m G (by omega)).1
theorem j1m {f : Fm} (G : c0t f) (x y : Dv) (g h : Bool) (way : Int) : ResF f (f.sumM x y g h way).1 := by
 unfold Fm.sumM
 split
 · exact j1l G _ _
 · split <;> exact p0h G _
theorem a1g {f : Fm} {r : Vr} (h : r.cls = 3) (R : VrF f r) : ResF f r :=
 ⟨by omega, fun k => by omega, fun k => by omega, fun _ => R.inf h, fun k => by omega, fun k => by omega, fun _ => R.ok.x0 (by omega)⟩
theorem j1n {f : Fm} (G : c0t f) {a b : Vr} (A : VrF f a) (B : VrF f b) (way : Int) : ResF f (f.addM a b way).1 := by
 unfold Fm.addM
 split
 · exact j0u G
 · split
   · rename_i h
     split
     · exact j0u G
     · split
       · rename_i h3; exact a1g h3 A
       · rename_i h3; exact a1g (show b.cls = 3 by omega) B
   · exact j1m G _ _ _ _ _

theorem a1h {x : Dv} (h : SmD x) : FitR x := by
 have h1 := h.len
 have h2 := h.lo
 have h3 := h.hi
 have h4 := x0g x.m
 exact ⟨by omega, by omega, by omega⟩
structure TnD (a : Dv) : Prop where
 len : (dig B32 a.m).length ≤ 40
 lo : -38000 ≤ a.e
 hi : a.e ≤ 38000
theorem VrOk.tn {r : Vr} (R : VrOk r) : TnD r.x := ⟨by have := R.len; omega, by have := R.lo; omega, by have := R.hi; omega⟩
theorem TnD.sm {a : Dv} (h : TnD a) : SmD a := ⟨by have := h.len; omega, by have := h.lo; omega, by have := h.hi; omega⟩
end Go.Proofs.YtlcdfnaaenibgaaGreatDoor
namespace Go.Slip
open Go.RowKit
def r0k : List (Nat × SV) → Cfg → Cfg
 | [], c => c
 | (i, y) :: l, c => r0k l (k0i i y c)
section
variable {P : Program} {Q : Exit → Act → World → Prop} {E : List Nat} {w0 : World} {A : List Nat} {fs : List PF} {W : World} {c c' : Cfg}
theorem e0k (_ : Inv E w0 A c.bx fs W) (l : List (Nat × SV)) (h1 : ∀ A W, Inv E w0 A (nrm (r0k l c)).bx fs W → G P Q A (nrm (r0k l c)) W)
 (h2 : (∀ A W, Inv E w0 A (nrm (r0k l c)).bx fs W → G P Q A (nrm (r0k l c)) W) → G P Q A c W) : G P Q A c W := h2 h1
theorem zuse (K : ∀ A W, Inv E w0 A c'.bx fs W → G P Q A c' W) (I : Inv E w0 A c.bx fs W) (he : c = c' := by kernel_rfl) : G P Q A c W := by
 subst he
 exact K _ _ I
end
end Go.Slip
namespace Go.Proofs.YtlcdfnaaenibgaaGreatDoor
open Go.RowKit Go.Slip

theorem a1i {n : Int} {s t : ByteArray} (h : errL n [s, t] = 0) : a0q n s = 0 ∧ a0q n t = 0 ∧ IsFm n := by
 have h1 := f0z n h s (by simp)
 exact ⟨h1, f0z n h t (by simp), (c0v.1 h1).1⟩
theorem u0m {n : Int} {xs : List Vp} {s t : ByteArray} (h : xs.map (·.v) = [s, t].map (decP n)) : ∃ x y, xs = [x, y] ∧ x.v = decP n s ∧ y.v = decP n t := by
 cases xs with
 | nil => simp at h
 | cons x l =>
  cases l with
  | nil => simp at h
  | cons y l =>
   cases l with
   | nil => simp only [List.map_cons, List.map_nil, List.cons.injEq, and_true] at h; exact ⟨x, y, rfl, h.1, h.2⟩
   | cons _ _ => simp at h

theorem d1h (n way : Int) (s t : ByteArray) (h0 : errL n [s, t] = 0) (hw : 1 ≤ way ∧ way ≤ 5) : j1i n way [s, t] 33 ((fmt n).addM (refD n s) (refD n t) way) := by
 intro xs vs p c base u w hxs hvs oS oL U hT hb
 obtain ⟨hs, ht, hn⟩ := a1i h0
 obtain ⟨x, y, rfl, hx, hy⟩ := u0m hxs
 have ox := oL x (by simp)
 have oy := oL y (by simp)
 have HA := fun W u h1 h2 h3 h4 h5 => Lib.hid (k1w (fmt n) n way x y (refD n s) (refD n t) base u W h1 h2 h3 h4 (u0l hs hx) (u0l ht hy) (f0j hn) hw h5)
 generalize (fmt n).addM (refD n s) (refD n t) way = R at *
 generalize fmt n = f at *
 subst hvs
 clear oL hx hy hxs h0 hs ht hn
 obtain ⟨r, fl⟩ := R
 have I := Inv.startW w u 139 [.v (.int .i64 n), .v (.int .i64 way), .v (.int .i64 f.g.rad), .v (.int .i64 f.g.digs), .v (.int .i64 f.g.lo), .v (.int .i64 f.g.hi), .v (.bool f.g.grad), .v (.int .u8 (famB f)), .v (.int .i64 0)] [g0w base 70 4 p c [s, t].length ([x, y].flatMap Vp.cells), ownF base .u32 160 x.p x.c (dig B32 x.v.d), ownF base .u32 160 y.p y.c (dig B32 y.v.d), tabF] U ⟨oS, ox, oy, hT, True.intro⟩ ⟨fun hf => oS.far U (by kernel_rfl) hf.1 hf.2, fun hf => ox.far U (by kernel_rfl) hf.1 hf.2, fun hf => oy.far U (by kernel_rfl) hf.1 hf.2, fun hf => hT.far U (by kernel_rfl) hf, True.intro⟩
 refine a0b [.p 0 0, .v (.slice p [s, t].length c)] I Tryz.func33 ?_
 refine zd [0, 1] I fun Al W I => ?_
 refine zk [0, 1, 4] I fun I => ?_
 refine e0k I [(2, .v (.pointer (some (at_ p (0 * 4))))), (3, .v (.agg #[.int .i64 (x.v.cls : Int), .bool x.v.neg, .slice x.p (dig B32 x.v.d).length x.c, .int .i64 x.v.pow])), (5, .v (.pointer (some (at_ p (1 * 4))))), (6, .v (.agg #[.int .i64 (y.v.cls : Int), .bool y.v.neg, .slice y.p (dig B32 y.v.d).length y.c, .int .i64 y.v.pow]))] (fun Al W I => ?_) (fun KL17 => ?_)
 · refine zo 7 I (fun I => ?_)
   refine zge I 0 139 (fun Al W I => have hzW := I.bel.size; (HA W _ (I.box 0 139 _) I.fa.2.1 I.fa.2.2.1 (by omega) I.fa.2.2.2.1).out) fun Al V Iv hzV Kz kz => ?_
   rintro _ W ⟨v12, hR12, p12, c12, rfl, o12, hO, hB⟩
   refine ⟨_, rfl, kz _ [.v (.int .i64 n), .v (.int .i64 way), .v (.int .i64 f.g.rad), .v (.int .i64 f.g.digs), .v (.int .i64 f.g.lo), .v (.int .i64 f.g.hi), .v (.bool f.g.grad), .v (.int .u8 (famB f)), .v (.int .i64 (fl : Int))] _ hO hB fun I => ?_⟩
   clear kz Kz
   have I := I.ownB base o12
   refine zo 8 I (fun I => ?_)
   refine zn I fun Al W I => ?_
   exact zret I fun Al W I => ⟨v12, hR12, p12, c12, rfl, I.fa.1, I.bel, I.boxE 139 _⟩
 refine e0k I [(2, .v (.pointer (some (at_ p (0 * 4))))), (3, .v (.agg #[.int .i64 (x.v.cls : Int), .bool x.v.neg, .slice x.p (dig B32 x.v.d).length x.c, .int .i64 x.v.pow])), (5, .v (.pointer (some (at_ p (1 * 4)))))] (fun Al W I => ?_) (fun KL15 => ?_)
 · refine zo 6 I (fun I => ?_)
   refine zx I 11 (fun _ => .agg #[.int .i64 (y.v.cls : Int), .bool y.v.neg, .slice y.p (dig B32 y.v.d).length y.c, .int .i64 y.v.pow]) (fun Al W I => (c0n (m := 1 * 4) I.fa.1 f0y y.cells rfl rfl)) fun Al W I => ?_
   exact zuse KL17 I
 refine e0k I [(2, .v (.pointer (some (at_ p (0 * 4))))), (5, .v (.pointer (some (at_ p (1 * 4))))), (6, .v (.agg #[.int .i64 (y.v.cls : Int), .bool y.v.neg, .slice y.p (dig B32 y.v.d).length y.c, .int .i64 y.v.pow]))] (fun Al W I => ?_) (fun KL16 => ?_)
 · refine zo 3 I (fun I => ?_)
   refine zx I 8 (fun _ => .agg #[.int .i64 (x.v.cls : Int), .bool x.v.neg, .slice x.p (dig B32 x.v.d).length x.c, .int .i64 x.v.pow]) (fun Al W I => (c0n (m := 0 * 4) I.fa.1 f0y x.cells rfl rfl)) fun Al W I => ?_
   exact zuse KL17 I
 refine e0k I [(2, .v (.pointer (some (at_ p (0 * 4))))), (3, .v (.agg #[.int .i64 (x.v.cls : Int), .bool x.v.neg, .slice x.p (dig B32 x.v.d).length x.c, .int .i64 x.v.pow]))] (fun Al W I => ?_) (fun KL12 => ?_)
 · refine zo 5 I (fun I => ?_)
   refine zx I 10 (fun _ => .pointer (some (at_ p (1 * 4)))) (fun Al W I => (c0e (m := 1) (n := [s, t].length) (c := c) e0t I.fa.1.solid (by simp))) fun Al W I => ?_
   exact zuse KL15 I
 refine e0k I [(2, .v (.pointer (some (at_ p (0 * 4))))), (5, .v (.pointer (some (at_ p (1 * 4)))))] (fun Al W I => ?_) (fun KL13 => ?_)
 · refine zo2 3 6 I (fun I => ?_) (fun I => ?_)
   · refine zx I 8 (fun _ => .agg #[.int .i64 (x.v.cls : Int), .bool x.v.neg, .slice x.p (dig B32 x.v.d).length x.c, .int .i64 x.v.pow]) (fun Al W I => (c0n (m := 0 * 4) I.fa.1 f0y x.cells rfl rfl)) fun Al W I => ?_
     exact zuse KL15 I
   refine zx I 11 (fun _ => .agg #[.int .i64 (y.v.cls : Int), .bool y.v.neg, .slice y.p (dig B32 y.v.d).length y.c, .int .i64 y.v.pow]) (fun Al W I => (c0n (m := 1 * 4) I.fa.1 f0y y.cells rfl rfl)) fun Al W I => ?_
   exact zuse KL16 I
 refine e0k I [(5, .v (.pointer (some (at_ p (1 * 4))))), (6, .v (.agg #[.int .i64 (y.v.cls : Int), .bool y.v.neg, .slice y.p (dig B32 y.v.d).length y.c, .int .i64 y.v.pow]))] (fun Al W I => ?_) (fun KL14 => ?_)
 · refine zo 2 I (fun I => ?_)
   refine zx I 7 (fun _ => .pointer (some (at_ p (0 * 4)))) (fun Al W I => (c0e (m := 0) (n := [s, t].length) (c := c) e0t I.fa.1.solid (by simp))) fun Al W I => ?_
   exact zuse KL16 I
 refine e0k I [(2, .v (.pointer (some (at_ p (0 * 4)))))] (fun Al W I => ?_) (fun KL10 => ?_)
 · refine zo2 3 5 I (fun I => ?_) (fun I => ?_)
   · refine zx I 8 (fun _ => .agg #[.int .i64 (x.v.cls : Int), .bool x.v.neg, .slice x.p (dig B32 x.v.d).length x.c, .int .i64 x.v.pow]) (fun Al W I => (c0n (m := 0 * 4) I.fa.1 f0y x.cells rfl rfl)) fun Al W I => ?_
     exact zuse KL12 I
   refine zx I 10 (fun _ => .pointer (some (at_ p (1 * 4)))) (fun Al W I => (c0e (m := 1) (n := [s, t].length) (c := c) e0t I.fa.1.solid (by simp))) fun Al W I => ?_
   exact zuse KL13 I
 refine e0k I [(5, .v (.pointer (some (at_ p (1 * 4)))))] (fun Al W I => ?_) (fun KL11 => ?_)
 · refine zo2 2 6 I (fun I => ?_) (fun I => ?_)
   · refine zx I 7 (fun _ => .pointer (some (at_ p (0 * 4)))) (fun Al W I => (c0e (m := 0) (n := [s, t].length) (c := c) e0t I.fa.1.solid (by simp))) fun Al W I => ?_
     exact zuse KL13 I
   refine zx I 11 (fun _ => .agg #[.int .i64 (y.v.cls : Int), .bool y.v.neg, .slice y.p (dig B32 y.v.d).length y.c, .int .i64 y.v.pow]) (fun Al W I => (c0n (m := 1 * 4) I.fa.1 f0y y.cells rfl rfl)) fun Al W I => ?_
   exact zuse KL14 I
 refine zo2 2 5 I (fun I => ?_) (fun I => ?_)
 · refine zx I 7 (fun _ => .pointer (some (at_ p (0 * 4)))) (fun Al W I => (c0e (m := 0) (n := [s, t].length) (c := c) e0t I.fa.1.solid (by simp))) fun Al W I => ?_
   exact zuse KL10 I
 refine zx I 10 (fun _ => .pointer (some (at_ p (1 * 4)))) (fun Al W I => (c0e (m := 1) (n := [s, t].length) (c := c) e0t I.fa.1.solid (by simp))) fun Al W I => ?_
 exact zuse KL11 I

def p0k (n way : Int) (L : List ByteArray) (R : Vr × Nat) (w : World) (en : Ending) (w' : World) : Prop :=
 (if errR n way L = 0 then en = .returned (.tuple #[.string (strR n R.1), .int .i64 ((R.2 : Nat) : Int), .int .i64 (errR n way L)]) else en = .returned (.tuple #[.string (b0s []), .int .i64 0, .int .i64 (errR n way L)])) ∧ Below w.heap.size w w'
theorem i0x {n way : Int} {L : List ByteArray} (h0 : errR n way L = 0) : IsFm n ∧ errL n L = 0 ∧ 1 ≤ way ∧ way ≤ 5 := by
 have hn : IsFm n := by unfold errR at h0; split at h0; assumption; omega
 unfold errR at h0
 rw [if_pos hn] at h0
 have hL : errL n L = 0 := by split at h0; assumption; contradiction
 rw [if_pos hL] at h0
 exact ⟨hn, hL, by split at h0; assumption; omega⟩

theorem d1i (n way : Int) (s t : ByteArray) (w : World) (hT : TabW w) : Calls Tryz.prog 10 #[.int .i64 n, .string s, .string t, .int .i64 way] w (p0k n way [s, t] ((fmt n).addM (refD n s) (refD n t) way) w) := by
 unfold p0k
 by_cases h0 : errR n way [s, t] = 0
 · obtain ⟨hn, hL, hw⟩ := i0x h0
   have HR := fun b m W h1 h2 h3 => Lib.hid (j1j n way [s, t] 33 _ b m W h1 h2 (by simp) h3 (fun _ _ => by kernel_rfl) h0 (d1h n way s t hL hw) (j1n (f0j hn) (m0m hn) (m0m hn) way))
   simp only [h0, if_true]
   generalize strR n ((fmt n).addM (refD n s) (refD n t) way).1 = str at *
   generalize ((fmt n).addM (refD n s) (refD n t) way).2 = fl at *
   have I := Inv.start w [tabF] ⟨hT, True.intro⟩
   refine a0b [.v (.int .i64 n), .v (.string s), .v (.string t), .v (.int .i64 way)] I Tryz.func10 ?_
   refine zg I (fun Al W I => (HR _ 2 W (I.box 0 9 _) rfl I.fa.1).out) fun Al V Iv hzV hB Kz kz => ?_
   rintro _ W ⟨rfl, hb⟩
   refine ⟨_, rfl, kz _ _ hb fun I => ?_⟩
   clear kz Kz
   exact zret I fun Al W I => ⟨rfl, I.below⟩
 · have HR := fun b m W h1 h2 h3 => Lib.hid (g1s n way [s, t] 33 b m W h1 h2 (by simp) h3 h0)
   simp only [if_neg h0]
   generalize errR n way [s, t] = er at *
   have I := Inv.start w [tabF] ⟨hT, True.intro⟩
   refine a0b [.v (.int .i64 n), .v (.string s), .v (.string t), .v (.int .i64 way)] I Tryz.func10 ?_
   refine zg I (fun Al W I => (HR _ 2 W (I.box 0 9 _) rfl I.fa.1).out) fun Al V Iv hzV hB Kz kz => ?_
   rintro _ W ⟨rfl, hb⟩
   refine ⟨_, rfl, kz _ _ hb fun I => ?_⟩
   clear kz Kz
   exact zret I fun Al W I => ⟨rfl, I.below⟩


def rflF (b : Nat) (xs : List Wp) : PF :=
 ⟨fun w => ∀ x, x ∈ xs → Rf w b x.p x.c (dig B16 x.r.x.m), fun a => ∃ x, x ∈ xs ∧ 0 < (dig B16 x.r.x.m).length ∧ blk x.p = a, fun _ _ h hb _ x hx => ⟨(h x hx).rd.same fun hp => hb _ ((h x hx).rd.lt hp) ⟨x, hx, hp, rfl⟩, (h x hx).cap, (h x hx).at_⟩, fun _ _ h ⟨x, hx, hp, hf⟩ => hf ▸ (h x hx).rd.lt hp⟩
theorem d1j {w : World} {b : Nat} {xs : List Wp} {r : Vr} {p : Option Addr} {c : Nat} (h : ∀ x, x ∈ xs → Rf w b x.p x.c (dig B16 x.r.x.m)) (o : Rf w b p c (dig B16 r.x.m)) : ∀ x, x ∈ xs ++ [⟨r, p, c⟩] → Rf w b x.p x.c (dig B16 x.r.x.m) := fun x hx => by
 rw [List.mem_append, List.mem_singleton] at hx
 rcases hx with hx | rfl
 · exact h x hx
 · exact o
theorem a1j {b a : Nat} {xs : List Wp} {r : Vr} {p : Option Addr} {c : Nat} (h : (rflF b (xs ++ [⟨r, p, c⟩])).foot a) (h1 : ∀ x, (x ∈ xs ∧ 0 < (dig B16 x.r.x.m).length ∧ blk x.p = a) → False) (h2 : 0 < (dig B16 r.x.m).length → blk p = a → False) : False := by
 obtain ⟨x, hx, h3, h4⟩ := h
 rw [List.mem_append, List.mem_singleton] at hx
 rcases hx with hx | rfl
 · exact h1 x ⟨hx, h3, h4⟩
 · exact h2 h3 h4
def g1u (n : Int) (w : World) (L : List ByteArray) (en : Ending) (w' : World) : Prop :=
 ∃ (xs : List Wp) (vs : List Value) (p : Option Addr) (c : Nat), en = .returned (.tuple #[.slice p L.length c, .int .i64 0]) ∧ xs.map (·.r) = L.map (refD n) ∧ vs = xs.flatMap Wp.cells ∧ OwnS w' w.heap.size 32 5 p c L.length vs ∧ (∀ x, x ∈ xs → Rf w' w.heap.size x.p x.c (dig B16 x.r.x.m)) ∧ Below w.heap.size w w'
theorem a1k (n way : Int) (L : List ByteArray) (b m : Nat) (w : World) (hB0 : Bt w b 9 (L.map Value.string).toArray) (hm : m = L.length) (hl : L.length ≤ 1000) (h0 : errR n way L = 0) :
 Calls Tryz.prog 11 #[.int .i64 n, .int .i64 way, .slice (some ⟨b, 0, none⟩) m m] w (g1u n w L) := by
 subst hm
 obtain ⟨hn, hL, hw⟩ := i0x h0
 have HF := fun W => Lib.hid (i0u n W)
 rw [decide_eq_true hn] at HF
 have HX : ∀ i, i < L.length → ∃ s : ByteArray, L[i]? = some s ∧ a0q n s = 0 ∧ (L.map Value.string).toArray[i]? = some (.string s) ∧ L.take (i + 1) = L.take i ++ [s] := fun i h => ⟨L[i], List.getElem?_eq_getElem h, f0z n hL _ (List.getElem_mem h), by simp [h], by rw [List.take_add_one, List.getElem?_eq_getElem h]; rfl⟩
 have HO := fun s W => Lib.hid (m0e n s W)
 have HD := fun s W h => Lib.hid (g0v n s W hn h)
 have hsz := fun s (h : a0q n s = 0) => (c0v.1 h).2
 have HI := fun W => Lib.hid (stay (k0d way W))
 rw [q0t hw.1 hw.2] at HI
 have hrd : ∀ s, (fmt n).refN (a0s (fmt n) s) = refD n s := fun s => rfl
 simp only [hrd] at HD
 generalize hgs : (fun s => (fmt n).neg (a0s (fmt n) s)) = gs
 have HD2 : ∀ s (W : World), s.size = (fmt n).size → Hid (Calls Tryz.prog 36 #[.int .i64 n, .string s] W (i0w W (refD n s) (gs s))) := by subst hgs; exact HD
 clear hgs HD hrd
 generalize fmt n = f at *
 have I := Inv.start w [btF b 9 (L.map Value.string).toArray] ⟨hB0, True.intro⟩
 refine a0b [.v (.int .i64 n), .v (.int .i64 way), .v (.slice (some ⟨b, 0, none⟩) L.length L.length)] I Tryz.func11 ?_
 refine zg I (fun Al W I => (HF W).out) fun Al V Iv hzV hB Kz kz => ?_
 rintro _ W ⟨rfl, hb⟩
 refine ⟨_, rfl, kz _ _ hb fun I => ?_⟩
 clear kz Kz
 have I := I.add (g0w w.heap.size 32 5 none 0 0 []) (OwnS.nil _ _ _ _) (fun _ _ h => by cases h.1)
 have I := I.add (rflF w.heap.size []) (fun _ h => by cases h) (fun _ _ ⟨_, h, _⟩ => by cases h)
 refine q0j I (fun gk fr bx gs => ∃ (U900 : Nat → Value) (i : Nat) (p8 : Option Addr) (c8 : Nat) (xs : List Wp) (vs : List Value), fr = (.v (.int .i64 n) :: .v (.int .i64 way) :: .v (.slice (some ⟨b, 0, none⟩) L.length L.length) :: su 3 (sw U900 6 2 (.v (.slice p8 i c8) :: .v (U900 9) :: .v (.bool true) :: .v (.int .i64 (i : Int)) :: sw U900 12 9 (.v (.bool false) :: sw U900 22 30 (.v undef :: .v (U900 53) :: [])))) : List SV) ∧ bx = [⟨55, [.v (.int .i64 (f.size : Int)), .v (.int .i64 (f.E : Int)), .v (.int .i64 (f.F : Int)), .v (.int .i64 f.g.rad), .v (.int .i64 f.g.digs), .v (.int .i64 f.g.lo), .v (.int .i64 f.g.hi), .v (.bool f.g.grad), .v (.int .i64 (f.fam : Int))], false⟩] ∧ gs = [rflF w.heap.size xs, g0w w.heap.size 32 5 p8 c8 i vs, btF b 9 (L.map Value.string).toArray] ∧ (gk + i = L.length) ∧ (vs = xs.flatMap Wp.cells) ∧ (xs.map (·.r) = (L.take i).map (refD n)) ∧ (p8.isSome = true → ¬ (rflF w.heap.size xs).foot (blk p8))) L.length (fun Al W U I => ⟨_, ⟨U, 0, none, 0, [], [], rfl, rfl, rfl, (by omega), rfl, rfl, (fun h => by cases h)⟩, I.pick [0, 1, 2]⟩) ?_
 rintro J gk0 _ _ _ ⟨U900, i, p8, c8, xs, vs, rfl, rfl, rfl, hgk, hvs, hxs, hap⟩ hJ Al W I
 rcases Bool.eq_false_or_eq_true (decide ((i : Int) < (L.length : Int))) with f25 | f25
 · refine zb I 25 (decide ((i : Int) < (L.length : Int))) (true) (f25) fun Al W I => ?_
   obtain ⟨s, hs, hse, hsv, hst⟩ := HX i (by have := of_decide_eq_true f25; omega)
   refine zx I 31 (fun _ => .pointer (some (at_ (some ⟨b, 0, none⟩) i))) (fun Al W I => (g0u (m := i) (n := L.length) (c := L.length) w0c (fun _ => ⟨rfl, rfl⟩) (by have := of_decide_eq_true f25; omega))) fun Al W I => ?_
   refine zx I 32 (fun _ => .string s) (fun Al W I => (j0w I.fa.2.2.1 w0d _ hsv)) fun Al W I => ?_
   refine zg I (fun Al W I => (HO s W).out) fun Al V Iv hzV hB Kz kz => ?_
   rintro _ W ⟨rfl, hb⟩
   refine ⟨_, rfl, kz _ _ hb fun I => ?_⟩
   clear kz Kz
   refine zb I 35 ((a0q n s) != 0) (false) (bne_eq_false_iff_eq.2 hse) fun Al W I => ?_
   refine zx I 41 (fun _ => .pointer (some (at_ (some ⟨b, 0, none⟩) i))) (fun Al W I => (g0u (m := i) (n := L.length) (c := L.length) w0c (fun _ => ⟨rfl, rfl⟩) (by have := of_decide_eq_true f25; omega))) fun Al W I => ?_
   refine zx I 42 (fun _ => .string s) (fun Al W I => (j0w I.fa.2.2.1 w0d _ hsv)) fun Al W I => ?_
   refine zg I (fun Al W I => (HD2 s W (hsz s hse)).out) fun Al V Iv hzV hB Kz kz => ?_
   rintro _ W ⟨p43, c43, rfl, o43, hb⟩
   have n43 : p8.isSome = true → ¬ (0 < (dig B16 (refD n s).x.m).length ∧ blk p43 = blk p8) := fun hp h => by have h1 := o43.at_ h.1; have h2 := (Iv.fa.2.1.blk_lt hp).2; omega
   refine ⟨_, rfl, kz _ _ hb fun I => ?_⟩
   clear kz Kz
   have I := I.rf o43 (hB _) Iv
   have I := I.pick [2, 0, 1, 3]
   refine zap I tvV 2 1 (fun Al => [.int .i64 (((refD n s).cls : Nat) : Int), .bool ((refD n s).neg), .bool ((refD n s).x.neg), .slice p43 (dig B16 (refD n s).x.m).length c43, .int .i64 ((refD n s).x.e)]) (fun Al W I => I.box 2 32 _) (by omega) (fun Al W I hp => ⟨n43 hp, hap hp, fun e => I.fa.1.far I.fa.2.2.2.1 (by kernel_rfl) hp (Eq.symm e), True.intro⟩) fun Al W p49 c49 hq_49 I => ?_
   have I := I.add (rflF w.heap.size (xs ++ [(⟨refD n s, p43, c43⟩ : Wp)])) (d1j I.fa.2.2.1 I.fa.2.1) (fun a ha h => a1j h ((fun a ha h0 e => (I.far a ha).2.2.1 ⟨h0, e⟩) a ha) ((fun a ha h0 e => (I.far a ha).2.1 ⟨h0, e⟩) a ha))
   refine zi I 27 .i64 ((i : Int) + 1) (((i + 1 : Nat) : Int)) ((by rw [show ((i : Int) + 1) = ((i + 1 : Nat) : Int) by omega]; exact IntWalk.i64_in _ (by have := of_decide_eq_true f25; omega))) fun Al W I => ?_
   exact n0n 1 I J fun Al W U I => hJ (gk0 - 1) _ _ _ _ _ ((by have := of_decide_eq_true f25; omega)) ⟨U, i + 1, p49, c49, xs ++ [(⟨refD n s, p43, c43⟩ : Wp)], _, rfl, rfl, rfl, (by have := of_decide_eq_true f25; omega), (by rw [hvs, List.flatMap_append]; rfl), (by rw [hst, List.map_append, List.map_append, hxs]; rfl), (fun hp h => a1j h (fun x hx => (hq_49 hp).2.1 ⟨x, hx⟩) (fun h1 h2 => (hq_49 hp).1 ⟨h1, h2⟩))⟩ (I.pick [0, 1, 4])
 refine zb I 25 (decide ((i : Int) < (L.length : Int))) (false) (f25) fun Al W I => ?_
 refine zg I (fun Al W I => (HI W).out) fun Al V Iv hzV hB Kz kz => ?_
 rintro _ W ⟨rfl, hb⟩
 refine ⟨_, rfl, kz _ _ hb fun I => ?_⟩
 clear kz Kz
 have hi : i = L.length := by have := of_decide_eq_false f25; omega
 exact zret I (v := fun Al => .tuple #[.slice p8 i c8, .int .i64 0]) fun Al W I => ⟨xs, vs, p8, c8, by rw [hi], by rw [hxs, hi, List.take_length], hvs, hi ▸ I.fa.2.1, I.fa.1, I.below⟩

theorem w0e (n way : Int) (L : List ByteArray) (b m : Nat) (w : World) (hB0 : Bt w b 9 (L.map Value.string).toArray) (hm : m = L.length) (hl : L.length ≤ 1000) (h0 : errR n way L ≠ 0) :
 Calls Tryz.prog 11 #[.int .i64 n, .int .i64 way, .slice (some ⟨b, 0, none⟩) m m] w fun en w' => en = .returned (.tuple #[.slice none 0 0, .int .i64 (errR n way L)]) ∧ Below w.heap.size w w' := by
 subst hm
 have HF := fun W => Lib.hid (i0u n W)
 by_cases hn : IsFm n
 · rw [decide_eq_true hn] at HF
   have hE : errR n way L = if errL n L = 0 then (if 1 ≤ way ∧ way ≤ 5 then 0 else 6) else errL n L := by unfold errR; rw [if_pos hn]
   have HO := fun s W => Lib.hid (m0e n s W)
   have HD := fun s W h => Lib.hid (g0v n s W hn h)
   have hsz := fun s (h : a0q n s = 0) => (c0v.1 h).2
   have HI := fun W => Lib.hid (stay (k0d way W))
   generalize hgs : (fun s => (fmt n).neg (a0s (fmt n) s)) = gs
   have HD2 : ∀ s (W : World), s.size = (fmt n).size → Hid (Calls Tryz.prog 36 #[.int .i64 n, .string s] W (i0w W (refD n s) (gs s))) := by subst hgs; exact HD
   clear hgs HD
   have HX : ∀ i, i < L.length → ∃ s : ByteArray, L[i]? = some s ∧ (L.map Value.string).toArray[i]? = some (.string s) := fun i h => ⟨L[i], List.getElem?_eq_getElem h, by simp [h]⟩
   have HJ : errL n L ≠ 0 → ∃ (j : Nat) (s : ByteArray), L[j]? = some s ∧ errL n L = a0q n s ∧ a0q n s ≠ 0 ∧ ∀ i t, i < j → L[i]? = some t → a0q n t = 0 := t0c n L
   have HZ : errL n L = 0 → ∀ (i : Nat) (t : ByteArray), L[i]? = some t → a0q n t = 0 := fun h i t ht => f0z n h t (by obtain ⟨h1, h2⟩ := List.getElem?_eq_some_iff.1 ht; rw [← h2]; exact List.getElem_mem h1)
   -- where the first fault is, or behind all
   obtain ⟨j, hjl, hj1, hj2⟩ : ∃ j, j ≤ L.length ∧ (∀ (i : Nat) (t : ByteArray), i < j → L[i]? = some t → a0q n t = 0) ∧ (∀ (s : ByteArray), L[j]? = some s → a0q n s ≠ 0 ∧ errR n way L = a0q n s) := by
    by_cases hL : errL n L = 0
    · exact ⟨L.length, Nat.le_refl _, fun i t _ ht => HZ hL i t ht, fun s hs => by simp at hs⟩
    · obtain ⟨j, s, h1, h2, h3, h4⟩ := HJ hL
      refine ⟨j, by have := (List.getElem?_eq_some_iff.1 h1).1; omega, h4, fun t ht => ?_⟩
      rw [h1] at ht
      cases ht
      exact ⟨h3, by rw [hE, if_neg hL, h2]⟩
   have hend : j = L.length → wayB way = false ∧ errR n way L = 6 := fun h => by
    have hL : errL n L = 0 := by
     by_cases hL : errL n L = 0
     · exact hL
     · obtain ⟨j', s, h1, h2, h3, h4⟩ := HJ hL
       have := (List.getElem?_eq_some_iff.1 h1).1
       exact absurd (hj1 j' s (by omega) h1) h3
    rw [hE, if_pos hL] at h0 ⊢
    have hw : ¬ (1 ≤ way ∧ way ≤ 5) := fun k => h0 (if_pos k)
    exact ⟨j0t (by omega), if_neg hw⟩
   generalize errR n way L = er at *
   generalize fmt n = f at *
   clear HJ HZ hE
   have I := Inv.start w [btF b 9 (L.map Value.string).toArray] ⟨hB0, True.intro⟩
   refine a0b [.v (.int .i64 n), .v (.int .i64 way), .v (.slice (some ⟨b, 0, none⟩) L.length L.length)] I Tryz.func11 ?_
   refine zg I (fun Al W I => (HF W).out) fun Al V Iv hzV hB Kz kz => ?_
   rintro _ W ⟨rfl, hb⟩
   refine ⟨_, rfl, kz _ _ hb fun I => ?_⟩
   clear kz Kz
   have I := I.add (g0w w.heap.size 32 5 none 0 0 []) (OwnS.nil _ _ _ _) (fun _ _ h => by cases h.1)
   refine q0j I (fun gk fr bx gs => ∃ (U900 : Nat → Value) (i : Nat) (p8 : Option Addr) (c8 : Nat) (vs : List Value), fr = (.v (.int .i64 n) :: .v (.int .i64 way) :: .v (.slice (some ⟨b, 0, none⟩) L.length L.length) :: su 3 (sw U900 6 2 (.v (.slice p8 i c8) :: .v (U900 9) :: .v (.bool true) :: .v (.int .i64 (i : Int)) :: sw U900 12 9 (.v (.bool false) :: sw U900 22 30 (.v undef :: .v (U900 53) :: [])))) : List SV) ∧ bx = [⟨55, [.v (.int .i64 (f.size : Int)), .v (.int .i64 (f.E : Int)), .v (.int .i64 (f.F : Int)), .v (.int .i64 f.g.rad), .v (.int .i64 f.g.digs), .v (.int .i64 f.g.lo), .v (.int .i64 f.g.hi), .v (.bool f.g.grad), .v (.int .i64 (f.fam : Int))], false⟩] ∧ gs = [g0w w.heap.size 32 5 p8 c8 i vs, btF b 9 (L.map Value.string).toArray] ∧ (gk + i = L.length) ∧ (i ≤ j)) L.length (fun Al W U I => ⟨_, ⟨U, 0, none, 0, [], rfl, rfl, rfl, (by omega), (by omega)⟩, I.pick [0, 1]⟩) ?_
   rintro J gk0 _ _ _ ⟨U900, i, p8, c8, vs, rfl, rfl, rfl, hgk, hij⟩ hJ Al W I
   rcases Bool.eq_false_or_eq_true (decide ((i : Int) < (L.length : Int))) with f25 | f25
   · refine zb I 25 (decide ((i : Int) < (L.length : Int))) (true) (f25) fun Al W I => ?_
     obtain ⟨s, hs, hsv⟩ := HX i (by have := of_decide_eq_true f25; omega)
     refine zx I 31 (fun _ => .pointer (some (at_ (some ⟨b, 0, none⟩) i))) (fun Al W I => (g0u (m := i) (n := L.length) (c := L.length) w0c (fun _ => ⟨rfl, rfl⟩) (by have := of_decide_eq_true f25; omega))) fun Al W I => ?_
     refine zx I 32 (fun _ => .string s) (fun Al W I => (j0w I.fa.2.1 w0d _ hsv)) fun Al W I => ?_
     refine zg I (fun Al W I => (HO s W).out) fun Al V Iv hzV hB Kz kz => ?_
     rintro _ W ⟨rfl, hb⟩
     refine ⟨_, rfl, kz _ _ hb fun I => ?_⟩
     clear kz Kz
     by_cases hij2 : i = j
     · refine zb I 35 ((a0q n s) != 0) (true) (bne_iff_ne.2 (by subst hij2; exact (hj2 s hs).1)) fun Al W I => ?_
       exact zret I (v := fun Al => .tuple #[.slice none 0 0, .int .i64 (a0q n s)]) fun Al W I => ⟨by rw [(hj2 s (hij2 ▸ hs)).2], I.below⟩
     refine zb I 35 ((a0q n s) != 0) (false) (bne_eq_false_iff_eq.2 (hj1 i s (by omega) hs)) fun Al W I => ?_
     refine zx I 41 (fun _ => .pointer (some (at_ (some ⟨b, 0, none⟩) i))) (fun Al W I => (g0u (m := i) (n := L.length) (c := L.length) w0c (fun _ => ⟨rfl, rfl⟩) (by have := of_decide_eq_true f25; omega))) fun Al W I => ?_
     refine zx I 42 (fun _ => .string s) (fun Al W I => (j0w I.fa.2.1 w0d _ hsv)) fun Al W I => ?_
     refine zg I (fun Al W I => have hzW := I.bel.size; (HD2 s W (hsz s (hj1 i s (by omega) hs))).out) fun Al V Iv hzV hB Kz kz => ?_
     rintro _ W ⟨p43, c43, rfl, -, hb⟩
     refine ⟨_, rfl, kz _ _ hb fun I => ?_⟩
     clear kz Kz
     refine zap I tvV 2 1 (fun Al => [.int .i64 (((refD n s).cls : Nat) : Int), .bool ((refD n s).neg), .bool ((refD n s).x.neg), .slice p43 (dig B16 (refD n s).x.m).length c43, .int .i64 ((refD n s).x.e)]) (fun Al W I => I.box 2 32 _) (by omega) (fun Al W I hp => ⟨fun e => I.fa.1.far I.fa.2.1 (by kernel_rfl) hp (Eq.symm e), True.intro⟩) fun Al W p49 c49 hq_49 I => ?_
     refine zi I 27 .i64 ((i : Int) + 1) (((i + 1 : Nat) : Int)) ((by rw [show ((i : Int) + 1) = ((i + 1 : Nat) : Int) by omega]; exact IntWalk.i64_in _ (by have := of_decide_eq_true f25; omega))) fun Al W I => ?_
     exact n0n 1 I J fun Al W U I => hJ (gk0 - 1) _ _ _ _ _ ((by have := of_decide_eq_true f25; omega)) ⟨U, i + 1, p49, c49, _, rfl, rfl, rfl, (by have := of_decide_eq_true f25; omega), (by omega)⟩ (I.pick [0, 1])
   refine zb I 25 (decide ((i : Int) < (L.length : Int))) (false) (f25) fun Al W I => ?_
   refine zg I (fun Al W I => (HI W).out) fun Al V Iv hzV hB Kz kz => ?_
   rintro _ W ⟨rfl, hb⟩
   refine ⟨_, congrArg (fun b => Ending.returned (.bool b)) (show (wayB way) = false from (hend (by have := of_decide_eq_false f25; omega)).1), kz _ _ hb fun I => ?_⟩
   clear kz Kz
   exact zret I (v := fun Al => .tuple #[.slice none 0 0, .int .i64 6]) fun Al W I => ⟨by rw [(hend (by have := of_decide_eq_false f25; omega)).2], I.below⟩
 · rw [decide_eq_false hn] at HF
   have hE : errR n way L = 6 := by unfold errR; rw [if_neg hn]
   rw [hE]
   generalize fmt n = f at *
   have I := Inv.start w [] True.intro
   refine a0b [.v (.int .i64 n), .v (.int .i64 way), .v (.slice (some ⟨b, 0, none⟩) L.length L.length)] I Tryz.func11 ?_
   refine zg I (fun Al W I => (HF W).out) fun Al V Iv hzV hB Kz kz => ?_
   rintro _ W ⟨rfl, hb⟩
   refine ⟨_, rfl, kz _ _ hb fun I => ?_⟩
   clear kz Kz
   exact zret I fun Al W I => ⟨rfl, I.below⟩

theorem t0d {m k : Nat} (h1 : 2 ^ k ≤ m) (h2 : m < 2 ^ (k + 1)) : blen m = k + 1 := by
 have a := (b0i m (k + 1)).2 h2
 have b : ¬ blen m ≤ k := fun h => by have := (b0i m k).1 h; omega
 omega
def oneS : ByteArray := b0s [63, 128, 0, 0]
def twoS : ByteArray := b0s [64, 0, 0, 0]
theorem g1v : a0s (fmt 1) oneS = 1065353216 := by
 unfold a0s oneS
 rw [p0e (by decide)]
 decide +kernel
theorem g1w : a0q 1 oneS = 0 := c0v.2 ⟨by decide, by unfold oneS; rw [u0r]; rfl⟩
theorem g1x : refD 1 oneS = ⟨2, false, ⟨false, 1, 0⟩⟩ := by
 unfold refD
 rw [g1v]
 have hd : (fmt 1).decN 1065353216 = ⟨2, 8388608, -23⟩ := by kernel_rfl
 have hg : (fmt 1).neg 1065353216 = false := by decide +kernel
 unfold Fm.refN Fm.vr
 rw [hd, hg]
 have ht : tz 8388608 = 23 := k0z 1 23 rfl
 have hw : wid (fmt 1).g = 1 := by decide
 unfold Dc.c bare
 simp [ht, hw]
theorem g1y : g0e ⟨false, 1, 0⟩ ⟨false, 1, 0⟩ = ⟨false, 1, 1⟩ := by
 rw [v0b _ _ (e := 0) (by decide) (by decide)]
 have hz : zOf ⟨false, 1, 0⟩ 0 + zOf ⟨false, 1, 0⟩ 0 = 2 := by decide
 rw [hz]
 have ht : tz 2 = 1 := k0z 1 1 rfl
 unfold norm ofZ bare
 simp [ht]
theorem g1z : (fmt 1).addM ⟨2, false, ⟨false, 1, 0⟩⟩ ⟨2, false, ⟨false, 1, 0⟩⟩ 1 = (⟨2, false, ⟨false, 1, 1⟩⟩, 0) := by
 have hK : theK 1 1 1 1 24 = -22 := by
  have h := s0d (m := 1) (by decide) 1 (w := 1) (D := 24) (by decide) (by decide)
  rw [show blen 1 = 1 from t0d (k := 0) (by decide) (by decide)] at h
  exact e1w (by decide) (by decide) (by decide) (by decide) h
 have hR : a0w false 1 1 1 (fmt 1).g 1 = ⟨false, 8388608, -22, true, false, false⟩ := by
  unfold a0w
  rw [if_neg (by decide), show wid (fmt 1).g = 1 from rfl, show (fmt 1).g.digs.toNat = 24 from rfl, hK]
  kernel_rfl
 have ht : tz 8388608 = 23 := k0z 1 23 rfl
 unfold Fm.addM
 rw [if_neg (by decide), if_neg (by decide)]
 unfold Fm.sumM
 rw [g1y, if_pos (by decide)]
 unfold Fm.numM
 rw [if_neg (by decide), hR]
 unfold Fm.placedM Fm.flP bare
 have hw : wid (fmt 1).g = 1 := by decide
 simp [ht, hw]
theorem h1a : strR 1 ⟨2, false, ⟨false, 1, 1⟩⟩ = twoS := by
 have hb : blen 1 = 1 := t0d (k := 0) (by decide) (by decide)
 have h24 : blen 8388608 = 24 := t0d (k := 23) (by decide) (by decide)
 have hs : c0o ⟨false, 1, 1⟩ (fmt 1).g = -22 := by
  unfold c0o upK topD
  simp only [hb]
  decide
 have hf : (fmt 1).fr ⟨false, 1, 1⟩ = 8388608 := by
  unfold Fm.fr
  rw [hs]
  decide
 have hn : (fmt 1).numP ⟨false, 1, 1⟩ = ⟨false, 128, 0⟩ := by
  unfold Fm.numP
  rw [hf, hs, h24]
  kernel_rfl
 have he : (fmt 1).encP 2 false ⟨false, 1, 1⟩ = ⟨false, 128, 0⟩ := hn
 have h2 : (fmt 1).strP ⟨false, 128, 0⟩ = [64, 0, 0, 0] := by decide +kernel
 unfold strR twoS
 simp only
 rw [he, h2]
theorem d1k : errR 1 1 [oneS, oneS] = 0 := by
 unfold errR errL errL errL
 rw [g1w]
 decide

theorem m0r (w : World) (hT : TabW w) : Calls Tryz.prog 13 #[] w fun en w' => en = .returned (.bool true) ∧ Below w.heap.size w w' := by
 have HA : ∀ W, TabW W → Hid (Calls Tryz.prog 10 #[.int .i64 1, .string oneS, .string oneS, .int .i64 1] W fun en w' => en = .returned (.tuple #[.string twoS, .int .i64 0, .int .i64 0]) ∧ Below W.heap.size W w') := by
  intro W h
  have := d1i 1 1 oneS oneS W h
  unfold p0k at this
  rw [d1k, g1x, g1z] at this
  simp only [h1a, if_true] at this
  exact Lib.hid this
 refine calls_of_wp Tryz.func13 rfl ?_
 refine a0x (a' := ⟨(us 26 []).toArray, []⟩) (by kernel_rfl) ?_
 refine yq ?_
 refine ye ?_
 refine ywv 0 rfl 5 (.slice (some ⟨w.heap.size, 0, none⟩) 4 4) #[.int .u8 63, .int .u8 128, .int .u8 0, .int .u8 0] 5 (fun V1 hbV1 hzV1 b5 => ?_)
 refine yv 0 rfl 6 (.string oneS) ?_ (k0r (p := some ⟨w.heap.size, 0, none⟩) (n := 4) (c := 4) (xs := [63, 128, 0, 0]) q0q z0d uStr (z0z b5) rfl (by kernel_rfl))
 refine yzt 1 ?_
 refine ye ?_
 replace hT := (hT.past hbV1)
 refine yc 2 rfl 10 ((HA V1 hT).out) (fun Gx hGx => ?_)
 rintro eV2 V2 ⟨rfl, hbV2⟩
 have hzV2 := hbV2.size
 refine ⟨_, rfl, hGx _ _ ?_⟩
 clear hGx Gx
 refine yzt 7 ?_
 refine ye ?_
 refine ywv 8 rfl 22 (.slice (some ⟨V2.heap.size, 0, none⟩) 4 4) #[.int .u8 64, .int .u8 0, .int .u8 0, .int .u8 0] 5 (fun V3 hbV3 hzV3 b22 => ?_)
 refine yv 0 rfl 23 (.string twoS) ?_ (k0r (p := some ⟨V2.heap.size, 0, none⟩) (n := 4) (c := 4) (xs := [64, 0, 0, 0]) q0q z0d uStr (z0z b22) rfl (by kernel_rfl))
 refine yv 0 rfl 24 (.bool true) ?_ (c1w (s := twoS) (by kernel_rfl) (by kernel_rfl))
 refine yzt 2 ?_
 refine wp_ret ?_
 repeat (first | with_reducible refine a0t ?_ | with_reducible refine a0n ?_)
 refine yret (.bool true) (res1 Tryz.results13 rvt) ?_
 exact ⟨rfl, (a0d (a0d hbV1 hbV2) hbV3)⟩


theorem j1o {n : Int} {xs : List Wp} {s t : ByteArray} (h : xs.map (·.r) = [s, t].map (refD n)) : ∃ p1 c1 p2 c2, xs = [⟨refD n s, p1, c1⟩, ⟨refD n t, p2, c2⟩] := by
 cases xs with
 | nil => simp at h
 | cons x l =>
  cases l with
  | nil => simp at h
  | cons y l =>
   cases l with
   | nil => simp only [List.map_cons, List.map_nil, List.cons.injEq, and_true] at h; rw [← h.1, ← h.2]; exact ⟨x.p, x.c, y.p, y.c, rfl⟩
   | cons _ _ => simp at h
def h1b (w : World) (r s : Vr) (en : Ending) (w' : World) : Prop :=
 ∃ p1 c1 p2 c2 p c, en = .returned (.tuple #[.slice p 2 c, .int .i64 0]) ∧ OwnS w' w.heap.size 32 5 p c 2 ((⟨r, p1, c1⟩ : Wp).cells ++ (⟨s, p2, c2⟩ : Wp).cells) ∧ Rf w' w.heap.size p1 c1 (dig B16 r.x.m) ∧ Rf w' w.heap.size p2 c2 (dig B16 s.x.m) ∧ Below w.heap.size w w'
theorem w0f (n way : Int) (s t : ByteArray) (b : Nat) (w : World) (hB0 : Bt w b 9 #[.string s, .string t]) (h0 : errR n way [s, t] = 0) :
 Calls Tryz.prog 11 #[.int .i64 n, .int .i64 way, .slice (some ⟨b, 0, none⟩) 2 2] w (h1b w (refD n s) (refD n t)) := by
 refine (a1k n way [s, t] b 2 w hB0 rfl (by simp) h0).mono fun en w' hh => ?_
 obtain ⟨xs, vs, p, c, h1, h2, h3, h4, h5, h6⟩ := hh
 obtain ⟨p1, c1, p2, c2, rfl⟩ := j1o h2
 subst h3
 exact ⟨p1, c1, p2, c2, p, c, h1, h4, h5 ⟨refD n s, p1, c1⟩ (by simp), h5 ⟨refD n t, p2, c2⟩ (by simp), h6⟩
theorem m0s (n way : Int) (s t : ByteArray) (b : Nat) (w : World) (hB0 : Bt w b 9 #[.string s, .string t]) (h0 : errR n way [s, t] ≠ 0) :
 Calls Tryz.prog 11 #[.int .i64 n, .int .i64 way, .slice (some ⟨b, 0, none⟩) 2 2] w fun en w' => en = .returned (.tuple #[.slice none 0 0, .int .i64 (errR n way [s, t])]) ∧ Below w.heap.size w w' :=
 w0e n way [s, t] b 2 w hB0 rfl (by simp) h0

def h1c (w : World) (x y : Vl) (en : Ending) (w' : World) : Prop :=
 ∃ p1 c1 p2 c2 p c, en = .returned (.tuple #[.slice p 2 c, .int .i64 0]) ∧ OwnS w' w.heap.size 70 4 p c 2 ((⟨x, p1, c1⟩ : Vp).cells ++ (⟨y, p2, c2⟩ : Vp).cells) ∧ Own w' w.heap.size .u32 160 p1 c1 (dig B32 x.d) ∧ Own w' w.heap.size .u32 160 p2 c2 (dig B32 y.d) ∧ Below w.heap.size w w'
theorem w0g (n way fl : Int) (s t : ByteArray) (b u : Nat) (w : World) (U : Bt w u 139 #[.int .i64 n, .int .i64 way, .int .i64 (fmt n).g.rad, .int .i64 (fmt n).g.digs, .int .i64 (fmt n).g.lo, .int .i64 (fmt n).g.hi, .bool (fmt n).g.grad, .int .u8 (famB (fmt n)), .int .i64 fl]) (hB0 : Bt w b 9 #[.string s, .string t]) (h0 : errL n [s, t] = 0) (hT : TabW w) :
 Calls Tryz.prog 51 #[.pointer (some ⟨u, 0, none⟩), .slice (some ⟨b, 0, none⟩) 2 2] w (h1c w (decP n s) (decP n t)) := by
 refine (p0j n way fl [s, t] b 2 u w U hB0 rfl (by simp) h0 hT).mono fun en w' hh => ?_
 obtain ⟨xs, vs, p, c, h1, h2, h3, h4, h5, h6⟩ := hh
 obtain ⟨x, y, rfl, hx, hy⟩ := u0m h2
 subst h3
 have g1 := h5 x (by simp)
 have g2 := h5 y (by simp)
 rw [hx] at g1
 rw [hy] at g2
 refine ⟨x.p, x.c, y.p, y.c, p, c, h1, ?_, g1, g2, h6⟩
 rw [← hx, ← hy]
 exact h4

def cmpR (a b : Vr) : Int × Bool := if 4 ≤ a.cls ∨ 4 ≤ b.cls then (0, false) else (cmpM a b, true)
def p0l (n : Int) (s t : ByteArray) (w : World) (en : Ending) (w' : World) : Prop :=
 (if errR n 1 [s, t] = 0 then en = .returned (.tuple #[.int .i64 (cmpR (refD n s) (refD n t)).1, .bool (cmpR (refD n s) (refD n t)).2, .int .i64 0]) else en = .returned (.tuple #[.int .i64 0, .bool false, .int .i64 (errR n 1 [s, t])])) ∧ Below w.heap.size w w'

theorem r0l (n : Int) (s t : ByteArray) (w : World) (hT : TabW w) : Calls Tryz.prog 21 #[.int .i64 n, .string s, .string t] w (p0l n s t w) := by
 unfold p0l
 by_cases h0 : errR n 1 [s, t] = 0
 · obtain ⟨hn, hL, hw⟩ := i0x h0
   obtain ⟨hs, ht, _⟩ := a1i hL
   simp only [h0, if_true]
   have HO := fun W => Lib.hid (m0l n 1 W hn (by omega))
   have HD := fun W b u h1 h2 h3 => Lib.hid (w0g n 1 0 s t b u W h1 h2 hL h3)
   have A1 : ∀ p1 c1, AtV (fmt n) ⟨decP n s, p1, c1⟩ (refD n s) := fun p1 c1 => u0l hs rfl
   have B1 : ∀ p1 c1, AtV (fmt n) ⟨decP n t, p1, c1⟩ (refD n t) := fun p1 c1 => u0l ht rfl
   have HC := fun W p1 c1 p2 c2 b u h1 h2 h3 h4 => Lib.hid (a1e (fmt n) n 1 0 ⟨decP n s, p1, c1⟩ ⟨decP n t, p2, c2⟩ (refD n s) (refD n t) b u W h1 h2 h3 (A1 p1 c1) (B1 p2 c2) h4)
   have k1 := (A1 none 0).rep.cls
   have k2 := (B1 none 0).rep.cls
   have o1 := (A1 none 0).ok.c
   have o2 := (B1 none 0).ok.c
   have hR : cmpR (refD n s) (refD n t) = if 4 ≤ (refD n s).cls ∨ 4 ≤ (refD n t).cls then (0, false) else (cmpM (refD n s) (refD n t), true) := rfl
   simp only at k1 k2 HC
   generalize cmpR (refD n s) (refD n t) = R at *
   generalize cmpM (refD n s) (refD n t) = RC at *
   generalize (refD n s).cls = q1 at *
   generalize (refD n t).cls = q2 at *
   generalize decP n s = v1 at *
   generalize decP n t = v2 at *
   generalize fmt n = f at *
   clear A1 B1 hs ht hL hw
   subst k1 k2
   have I := Inv.start w [tabF] ⟨hT, True.intro⟩
   refine a0b [.v (.int .i64 n), .v (.string s), .v (.string t)] I Tryz.func21 ?_
   refine zg I (fun Al W I => (HO W).out) fun Al V Iv hzV hB Kz kz => ?_
   rintro _ W ⟨u14, rfl, hge, hB, hb⟩
   refine ⟨_, rfl, kz _ _ hb fun I => ?_⟩
   clear kz Kz
   refine v0z Iv hb 0 u14 139 [(.int .i64 n), (.int .i64 1), (.int .i64 f.g.rad), (.int .i64 f.g.digs), (.int .i64 f.g.lo), (.int .i64 f.g.hi), (.bool f.g.grad), (.int .u8 (famB f)), (.int .i64 0)] hge hB fun Al hAl_14 I => ?_
   refine w0a I 15 0 u14 hAl_14 fun Al W I => ?_
   refine zg I (fun Al W I => (HD W _ _ (I.box 0 139 _) (I.box 1 9 _) I.fa.1).out) fun Al V Iv hzV hB Kz kz => ?_
   rintro _ W ⟨p1, c1, p2, c2, p, c, rfl, oS, oa, ob, hb⟩
   refine ⟨_, rfl, kz _ _ hb fun I => ?_⟩
   clear kz Kz
   have I := I.owns oS
   have I := I.own oa
   have I := I.own ob
   by_cases h1 : 4 ≤ v1.cls
   · by_cases h2 : 4 ≤ v2.cls
     · refine zx I 32 (fun _ => .pointer (some (at_ p (0 * 4)))) (fun Al W I => (c0e (m := 0) (n := 2) (c := c) e0t I.fa.2.2.1.solid (by omega))) fun Al W I => ?_
       refine zx I 33 (fun _ => .agg #[.int .i64 (v1.cls : Int), .bool v1.neg, .slice p1 (dig B32 v1.d).length c1, .int .i64 v1.pow]) (fun Al W I => (c0n (m := 0 * 4) I.fa.2.2.1 f0y (⟨v1, p1, c1⟩ : Vp).cells rfl rfl)) fun Al W I => ?_
       refine zg I (fun Al W I => d0j v1.cls v1.neg p1 (dig B32 v1.d).length c1 v1.pow W) fun Al V Iv hzV hB Kz kz => ?_
       rintro _ W ⟨rfl, hb⟩
       refine ⟨_, congrArg (fun b => Ending.returned (.bool b)) (show (decide (v1.cls = 4) || decide (v1.cls = 5)) = true from (by simp; omega)), kz _ _ hb fun I => ?_⟩
       clear kz Kz
       refine zret I (v := fun Al => .tuple #[.int .i64 0, .bool false, .int .i64 0]) fun Al W I => ?_
       first | exact ⟨by rw [hR, if_pos (by omega)], I.below⟩ | exact ⟨by rw [hR, if_neg (by omega)], I.below⟩
     refine zx I 32 (fun _ => .pointer (some (at_ p (0 * 4)))) (fun Al W I => (c0e (m := 0) (n := 2) (c := c) e0t I.fa.2.2.1.solid (by omega))) fun Al W I => ?_
     refine zx I 33 (fun _ => .agg #[.int .i64 (v1.cls : Int), .bool v1.neg, .slice p1 (dig B32 v1.d).length c1, .int .i64 v1.pow]) (fun Al W I => (c0n (m := 0 * 4) I.fa.2.2.1 f0y (⟨v1, p1, c1⟩ : Vp).cells rfl rfl)) fun Al W I => ?_
     refine zg I (fun Al W I => d0j v1.cls v1.neg p1 (dig B32 v1.d).length c1 v1.pow W) fun Al V Iv hzV hB Kz kz => ?_
     rintro _ W ⟨rfl, hb⟩
     refine ⟨_, congrArg (fun b => Ending.returned (.bool b)) (show (decide (v1.cls = 4) || decide (v1.cls = 5)) = true from (by simp; omega)), kz _ _ hb fun I => ?_⟩
     clear kz Kz
     refine zret I (v := fun Al => .tuple #[.int .i64 0, .bool false, .int .i64 0]) fun Al W I => ?_
     first | exact ⟨by rw [hR, if_pos (by omega)], I.below⟩ | exact ⟨by rw [hR, if_neg (by omega)], I.below⟩
   by_cases h2 : 4 ≤ v2.cls
   · refine zx I 32 (fun _ => .pointer (some (at_ p (0 * 4)))) (fun Al W I => (c0e (m := 0) (n := 2) (c := c) e0t I.fa.2.2.1.solid (by omega))) fun Al W I => ?_
     refine zx I 33 (fun _ => .agg #[.int .i64 (v1.cls : Int), .bool v1.neg, .slice p1 (dig B32 v1.d).length c1, .int .i64 v1.pow]) (fun Al W I => (c0n (m := 0 * 4) I.fa.2.2.1 f0y (⟨v1, p1, c1⟩ : Vp).cells rfl rfl)) fun Al W I => ?_
     refine zg I (fun Al W I => d0j v1.cls v1.neg p1 (dig B32 v1.d).length c1 v1.pow W) fun Al V Iv hzV hB Kz kz => ?_
     rintro _ W ⟨rfl, hb⟩
     refine ⟨_, congrArg (fun b => Ending.returned (.bool b)) (show (decide (v1.cls = 4) || decide (v1.cls = 5)) = false from (by simp; omega)), kz _ _ hb fun I => ?_⟩
     clear kz Kz
     refine zx I 37 (fun _ => .pointer (some (at_ p (1 * 4)))) (fun Al W I => (c0e (m := 1) (n := 2) (c := c) e0t I.fa.2.2.1.solid (by omega))) fun Al W I => ?_
     refine zx I 38 (fun _ => .agg #[.int .i64 (v2.cls : Int), .bool v2.neg, .slice p2 (dig B32 v2.d).length c2, .int .i64 v2.pow]) (fun Al W I => (c0n (m := 1 * 4) I.fa.2.2.1 f0y (⟨v2, p2, c2⟩ : Vp).cells rfl rfl)) fun Al W I => ?_
     refine zg I (fun Al W I => d0j v2.cls v2.neg p2 (dig B32 v2.d).length c2 v2.pow W) fun Al V Iv hzV hB Kz kz => ?_
     rintro _ W ⟨rfl, hb⟩
     refine ⟨_, congrArg (fun b => Ending.returned (.bool b)) (show (decide (v2.cls = 4) || decide (v2.cls = 5)) = true from (by simp; omega)), kz _ _ hb fun I => ?_⟩
     clear kz Kz
     refine zret I (v := fun Al => .tuple #[.int .i64 0, .bool false, .int .i64 0]) fun Al W I => ?_
     first | exact ⟨by rw [hR, if_pos (by omega)], I.below⟩ | exact ⟨by rw [hR, if_neg (by omega)], I.below⟩
   refine zx I 32 (fun _ => .pointer (some (at_ p (0 * 4)))) (fun Al W I => (c0e (m := 0) (n := 2) (c := c) e0t I.fa.2.2.1.solid (by omega))) fun Al W I => ?_
   refine zx I 33 (fun _ => .agg #[.int .i64 (v1.cls : Int), .bool v1.neg, .slice p1 (dig B32 v1.d).length c1, .int .i64 v1.pow]) (fun Al W I => (c0n (m := 0 * 4) I.fa.2.2.1 f0y (⟨v1, p1, c1⟩ : Vp).cells rfl rfl)) fun Al W I => ?_
   refine zg I (fun Al W I => d0j v1.cls v1.neg p1 (dig B32 v1.d).length c1 v1.pow W) fun Al V Iv hzV hB Kz kz => ?_
   rintro _ W ⟨rfl, hb⟩
   refine ⟨_, congrArg (fun b => Ending.returned (.bool b)) (show (decide (v1.cls = 4) || decide (v1.cls = 5)) = false from (by simp; omega)), kz _ _ hb fun I => ?_⟩
   clear kz Kz
   refine zx I 37 (fun _ => .pointer (some (at_ p (1 * 4)))) (fun Al W I => (c0e (m := 1) (n := 2) (c := c) e0t I.fa.2.2.1.solid (by omega))) fun Al W I => ?_
   refine zx I 38 (fun _ => .agg #[.int .i64 (v2.cls : Int), .bool v2.neg, .slice p2 (dig B32 v2.d).length c2, .int .i64 v2.pow]) (fun Al W I => (c0n (m := 1 * 4) I.fa.2.2.1 f0y (⟨v2, p2, c2⟩ : Vp).cells rfl rfl)) fun Al W I => ?_
   refine zg I (fun Al W I => d0j v2.cls v2.neg p2 (dig B32 v2.d).length c2 v2.pow W) fun Al V Iv hzV hB Kz kz => ?_
   rintro _ W ⟨rfl, hb⟩
   refine ⟨_, congrArg (fun b => Ending.returned (.bool b)) (show (decide (v2.cls = 4) || decide (v2.cls = 5)) = false from (by simp; omega)), kz _ _ hb fun I => ?_⟩
   clear kz Kz
   refine zd [] I fun Al W I => ?_
   refine zk [0, 1, 4] I fun I => ?_
   refine e0k I [(2, .v (.pointer (some (at_ p (0 * 4))))), (3, .v (.agg #[.int .i64 (v1.cls : Int), .bool v1.neg, .slice p1 (dig B32 v1.d).length c1, .int .i64 v1.pow])), (5, .v (.pointer (some (at_ p (1 * 4))))), (6, .v (.agg #[.int .i64 (v2.cls : Int), .bool v2.neg, .slice p2 (dig B32 v2.d).length c2, .int .i64 v2.pow]))] (fun Al W I => ?_) (fun KL17 => ?_)
   · refine zo 7 I (fun I => ?_)
     refine zg I (fun Al W I => (HC W p1 c1 p2 c2 _ _ (I.box 0 139 _) I.fa.2.1 I.fa.1 I.fa.2.2.2.1).out) fun Al V Iv hzV hB Kz kz => ?_
     rintro _ W ⟨rfl, hb⟩
     refine ⟨_, rfl, kz _ _ hb fun I => ?_⟩
     clear kz Kz
     refine zk [8, 9, 10] I fun I => ?_
     refine zret I (v := fun Al => .tuple #[.int .i64 RC, .bool true, .int .i64 0]) fun Al W I => ?_
     first | exact ⟨by rw [hR, if_pos (by omega)], I.below⟩ | exact ⟨by rw [hR, if_neg (by omega)], I.below⟩
   refine e0k I [(2, .v (.pointer (some (at_ p (0 * 4))))), (3, .v (.agg #[.int .i64 (v1.cls : Int), .bool v1.neg, .slice p1 (dig B32 v1.d).length c1, .int .i64 v1.pow])), (5, .v (.pointer (some (at_ p (1 * 4)))))] (fun Al W I => ?_) (fun KL15 => ?_)
   · refine zo 6 I (fun I => ?_)
     refine zx I 47 (fun _ => .agg #[.int .i64 (v2.cls : Int), .bool v2.neg, .slice p2 (dig B32 v2.d).length c2, .int .i64 v2.pow]) (fun Al W I => (c0n (m := 1 * 4) I.fa.2.2.1 f0y (⟨v2, p2, c2⟩ : Vp).cells rfl rfl)) fun Al W I => ?_
     exact zuse KL17 I
   refine e0k I [(2, .v (.pointer (some (at_ p (0 * 4))))), (5, .v (.pointer (some (at_ p (1 * 4))))), (6, .v (.agg #[.int .i64 (v2.cls : Int), .bool v2.neg, .slice p2 (dig B32 v2.d).length c2, .int .i64 v2.pow]))] (fun Al W I => ?_) (fun KL16 => ?_)
   · refine zo 3 I (fun I => ?_)
     refine zx I 44 (fun _ => .agg #[.int .i64 (v1.cls : Int), .bool v1.neg, .slice p1 (dig B32 v1.d).length c1, .int .i64 v1.pow]) (fun Al W I => (c0n (m := 0 * 4) I.fa.2.2.1 f0y (⟨v1, p1, c1⟩ : Vp).cells rfl rfl)) fun Al W I => ?_
     exact zuse KL17 I
   refine e0k I [(2, .v (.pointer (some (at_ p (0 * 4))))), (3, .v (.agg #[.int .i64 (v1.cls : Int), .bool v1.neg, .slice p1 (dig B32 v1.d).length c1, .int .i64 v1.pow]))] (fun Al W I => ?_) (fun KL12 => ?_)
   · refine zo 5 I (fun I => ?_)
     refine zx I 46 (fun _ => .pointer (some (at_ p (1 * 4)))) (fun Al W I => (c0e (m := 1) (n := 2) (c := c) e0t I.fa.2.2.1.solid (by omega))) fun Al W I => ?_
     exact zuse KL15 I
   refine e0k I [(2, .v (.pointer (some (at_ p (0 * 4))))), (5, .v (.pointer (some (at_ p (1 * 4)))))] (fun Al W I => ?_) (fun KL13 => ?_)
   · refine zo2 3 6 I (fun I => ?_) (fun I => ?_)
     · refine zx I 44 (fun _ => .agg #[.int .i64 (v1.cls : Int), .bool v1.neg, .slice p1 (dig B32 v1.d).length c1, .int .i64 v1.pow]) (fun Al W I => (c0n (m := 0 * 4) I.fa.2.2.1 f0y (⟨v1, p1, c1⟩ : Vp).cells rfl rfl)) fun Al W I => ?_
       exact zuse KL15 I
     refine zx I 47 (fun _ => .agg #[.int .i64 (v2.cls : Int), .bool v2.neg, .slice p2 (dig B32 v2.d).length c2, .int .i64 v2.pow]) (fun Al W I => (c0n (m := 1 * 4) I.fa.2.2.1 f0y (⟨v2, p2, c2⟩ : Vp).cells rfl rfl)) fun Al W I => ?_
     exact zuse KL16 I
   refine e0k I [(5, .v (.pointer (some (at_ p (1 * 4))))), (6, .v (.agg #[.int .i64 (v2.cls : Int), .bool v2.neg, .slice p2 (dig B32 v2.d).length c2, .int .i64 v2.pow]))] (fun Al W I => ?_) (fun KL14 => ?_)
   · refine zo 2 I (fun I => ?_)
     refine zx I 43 (fun _ => .pointer (some (at_ p (0 * 4)))) (fun Al W I => (c0e (m := 0) (n := 2) (c := c) e0t I.fa.2.2.1.solid (by omega))) fun Al W I => ?_
     exact zuse KL16 I
   refine e0k I [(2, .v (.pointer (some (at_ p (0 * 4)))))] (fun Al W I => ?_) (fun KL10 => ?_)
   · refine zo2 3 5 I (fun I => ?_) (fun I => ?_)
     · refine zx I 44 (fun _ => .agg #[.int .i64 (v1.cls : Int), .bool v1.neg, .slice p1 (dig B32 v1.d).length c1, .int .i64 v1.pow]) (fun Al W I => (c0n (m := 0 * 4) I.fa.2.2.1 f0y (⟨v1, p1, c1⟩ : Vp).cells rfl rfl)) fun Al W I => ?_
       exact zuse KL12 I
     refine zx I 46 (fun _ => .pointer (some (at_ p (1 * 4)))) (fun Al W I => (c0e (m := 1) (n := 2) (c := c) e0t I.fa.2.2.1.solid (by omega))) fun Al W I => ?_
     exact zuse KL13 I
   refine e0k I [(5, .v (.pointer (some (at_ p (1 * 4)))))] (fun Al W I => ?_) (fun KL11 => ?_)
   · refine zo2 2 6 I (fun I => ?_) (fun I => ?_)
     · refine zx I 43 (fun _ => .pointer (some (at_ p (0 * 4)))) (fun Al W I => (c0e (m := 0) (n := 2) (c := c) e0t I.fa.2.2.1.solid (by omega))) fun Al W I => ?_
       exact zuse KL13 I
     refine zx I 47 (fun _ => .agg #[.int .i64 (v2.cls : Int), .bool v2.neg, .slice p2 (dig B32 v2.d).length c2, .int .i64 v2.pow]) (fun Al W I => (c0n (m := 1 * 4) I.fa.2.2.1 f0y (⟨v2, p2, c2⟩ : Vp).cells rfl rfl)) fun Al W I => ?_
     exact zuse KL14 I
   refine zo2 2 5 I (fun I => ?_) (fun I => ?_)
   · refine zx I 43 (fun _ => .pointer (some (at_ p (0 * 4)))) (fun Al W I => (c0e (m := 0) (n := 2) (c := c) e0t I.fa.2.2.1.solid (by omega))) fun Al W I => ?_
     exact zuse KL10 I
   refine zx I 46 (fun _ => .pointer (some (at_ p (1 * 4)))) (fun Al W I => (c0e (m := 1) (n := 2) (c := c) e0t I.fa.2.2.1.solid (by omega))) fun Al W I => ?_
   exact zuse KL11 I
 · simp only [if_neg h0]
   by_cases hn : IsFm n
   · have hE : errR n 1 [s, t] = errL n [s, t] := by
      unfold errR
      rw [if_pos hn]
      by_cases hL : errL n [s, t] = 0
      · rw [hL]; decide
      · rw [if_neg hL]
     rw [hE] at h0 ⊢
     have HO := fun W => Lib.hid (m0l n 1 W hn (by omega))
     have HD := fun W b u h1 h2 h3 => Lib.hid (k0h n 1 0 [s, t] b 2 u W h1 h2 rfl (by simp) h0 h3)
     generalize errL n [s, t] = er at *
     generalize fmt n = f at *
     have I := Inv.start w [tabF] ⟨hT, True.intro⟩
     refine a0b [.v (.int .i64 n), .v (.string s), .v (.string t)] I Tryz.func21 ?_
     refine zg I (fun Al W I => (HO W).out) fun Al V Iv hzV hB Kz kz => ?_
     rintro _ W ⟨u14, rfl, hge, hB, hb⟩
     refine ⟨_, rfl, kz _ _ hb fun I => ?_⟩
     clear kz Kz
     refine v0z Iv hb 0 u14 139 [(.int .i64 n), (.int .i64 1), (.int .i64 f.g.rad), (.int .i64 f.g.digs), (.int .i64 f.g.lo), (.int .i64 f.g.hi), (.bool f.g.grad), (.int .u8 (famB f)), (.int .i64 0)] hge hB fun Al hAl_14 I => ?_
     refine w0a I 15 0 u14 hAl_14 fun Al W I => ?_
     refine zg I (fun Al W I => (HD W _ _ (I.box 0 139 _) (I.box 1 9 _) I.fa.1).out) fun Al V Iv hzV hB Kz kz => ?_
     rintro _ W ⟨rfl, hb⟩
     refine ⟨_, rfl, kz _ _ hb fun I => ?_⟩
     clear kz Kz
     refine zb I 29 (er != 0) (true) (bne_iff_ne.2 h0) fun Al W I => ?_
     exact zret I fun Al W I => ⟨rfl, I.below⟩
   · have hE : errR n 1 [s, t] = 6 := by unfold errR; rw [if_neg hn]
     rw [hE]
     have HO := fun W => Lib.hid (p0i n 1 W (fun h => hn h.1))
     have I := Inv.start w [] True.intro
     refine a0b [.v (.int .i64 n), .v (.string s), .v (.string t)] I Tryz.func21 ?_
     refine zg I (fun Al W I => (HO W).out) fun Al V Iv hzV hB Kz kz => ?_
     rintro _ W ⟨rfl, hb⟩
     refine ⟨_, rfl, kz _ _ hb fun I => ?_⟩
     clear kz Kz
     exact zret I fun Al W I => ⟨rfl, I.below⟩

theorem r0m (r : Vr) (p : Option Addr) (c : Nat) (w : World) : Calls Tryz.prog 54 #[.agg #[.int .i64 (r.cls : Int), .bool r.neg, .bool r.x.neg, .slice p (dig B16 r.x.m).length c, .int .i64 r.x.e]] w fun en w' => en = .returned (.int .i64 r.side) ∧ Below w.heap.size w w' := by
 unfold Vr.side
 obtain ⟨k, g, x⟩ := r
 simp only
 by_cases h : k = 3
 · rw [if_neg (fun h' => h' h)]
   cases g
   · have I := Inv.start w [] True.intro
     refine a0b [.v (.agg #[.int .i64 (k : Int), .bool false, .bool x.neg, .slice p (dig B16 x.m).length c, .int .i64 x.e])] I Tryz.func54 ?_
     refine zb I 5 ((k : Int) != 3) (false) (bne_eq_false_iff_eq.2 (by omega)) fun Al W I => ?_
     exact zret I fun Al W I => ⟨rfl, I.below⟩
   · have I := Inv.start w [] True.intro
     refine a0b [.v (.agg #[.int .i64 (k : Int), .bool true, .bool x.neg, .slice p (dig B16 x.m).length c, .int .i64 x.e])] I Tryz.func54 ?_
     refine zb I 5 ((k : Int) != 3) (false) (bne_eq_false_iff_eq.2 (by omega)) fun Al W I => ?_
     exact zret I fun Al W I => ⟨rfl, I.below⟩
 · rw [if_pos h]
   have I := Inv.start w [] True.intro
   refine a0b [.v (.agg #[.int .i64 (k : Int), .bool g, .bool x.neg, .slice p (dig B16 x.m).length c, .int .i64 x.e])] I Tryz.func54 ?_
   refine zb I 5 ((k : Int) != 3) (true) (bne_iff_ne.2 (by omega)) fun Al W I => ?_
   exact zret I fun Al W I => ⟨rfl, I.below⟩

theorem k0k (r1 r2 : Vr) (p1 p2 : Option Addr) (c1 c2 b1 b2 : Nat) (w : World) (oa : Rf w b1 p1 c1 (dig B16 r1.x.m)) (ob : Rf w b2 p2 c2 (dig B16 r2.x.m)) (A1 : VrOk r1) (B1 : VrOk r2) :
 Calls Tryz.prog 22 #[.agg #[.int .i64 (r1.cls : Int), .bool r1.neg, .bool r1.x.neg, .slice p1 (dig B16 r1.x.m).length c1, .int .i64 r1.x.e], .agg #[.int .i64 (r2.cls : Int), .bool r2.neg, .bool r2.x.neg, .slice p2 (dig B16 r2.x.m).length c2, .int .i64 r2.x.e]] w fun en w' => en = .returned (.tuple #[.int .i64 (cmpR r1 r2).1, .bool (cmpR r1 r2).2]) ∧ Below w.heap.size w w' := by
 have f1 := a1h A1.sm
 have f2 := a1h B1.sm
 have HS1 := fun W => Lib.hid (r0m r1 p1 c1 W)
 have HS2 := fun W => Lib.hid (r0m r2 p2 c2 W)
 have HC := fun W h1 h2 h3 => Lib.hid (s0w r1.x.neg r2.x.neg p1 p2 _ c1 _ c2 r1.x.e r2.x.e r1.x.m r2.x.m W h1 h2 rfl rfl h3 f1.len f2.len ⟨f1.lo, f1.hi⟩ ⟨f2.lo, f2.hi⟩)
 have hR1 : 4 ≤ r1.cls ∨ 4 ≤ r2.cls → cmpR r1 r2 = (0, false) := fun h => by unfold cmpR; rw [if_pos h]
 have hR2 : ¬ (4 ≤ r1.cls ∨ 4 ≤ r2.cls) → r1.side ≠ 0 ∨ r2.side ≠ 0 → cmpR r1 r2 = (clip (r1.side - r2.side), true) := fun h h' => by unfold cmpR cmpM; rw [if_neg h, if_pos h']
 have hR3 : ¬ (4 ≤ r1.cls ∨ 4 ≤ r2.cls) → ¬ (r1.side ≠ 0 ∨ r2.side ≠ 0) → cmpR r1 r2 = (rCmp r1.x r2.x, true) := fun h h' => by unfold cmpR cmpM; rw [if_neg h, if_neg h']
 have e1 : (⟨r1.x.neg, r1.x.m, r1.x.e⟩ : Dv) = r1.x := rfl
 have e2 : (⟨r2.x.neg, r2.x.m, r2.x.e⟩ : Dv) = r2.x := rfl
 rw [e1, e2] at HC
 clear e1 e2
 generalize cmpR r1 r2 = R at *
 generalize rCmp r1.x r2.x = RC at *
 generalize r1.side = s1 at *
 generalize r2.side = s2 at *
 have I := Inv.start w [rfF b1 p1 c1 (dig B16 r1.x.m), rfF b2 p2 c2 (dig B16 r2.x.m)] ⟨oa, ob, True.intro⟩
 refine a0b [.v (.agg #[.int .i64 (r1.cls : Int), .bool r1.neg, .bool r1.x.neg, .slice p1 (dig B16 r1.x.m).length c1, .int .i64 r1.x.e]), .v (.agg #[.int .i64 (r2.cls : Int), .bool r2.neg, .bool r2.x.neg, .slice p2 (dig B16 r2.x.m).length c2, .int .i64 r2.x.e])] I Tryz.func22 ?_
 by_cases h1 : 4 ≤ r1.cls
 · by_cases h2 : 4 ≤ r2.cls
   · refine zb I 11 (decide ((r1.cls : Int) ≥ 4)) (true) (decide_eq_true (by omega)) fun Al W I => ?_
     refine zret I (v := fun Al => .tuple #[.int .i64 0, .bool false]) fun Al W I => ?_
     first | exact ⟨by rw [hR1 (by omega)], I.below⟩ | exact ⟨by rw [hR2 (by omega) (by omega), show clip (s1 - s2) = -1 by (have := of_decide_eq_true f32; unfold clip; omega)], I.below⟩ | exact ⟨by rw [hR2 (by omega) (by omega), show clip (s1 - s2) = 1 by (have := of_decide_eq_true f36; unfold clip; omega)], I.below⟩ | exact ⟨by rw [hR2 (by omega) (by omega), show clip (s1 - s2) = 0 by (have := of_decide_eq_false f32; have := of_decide_eq_false f36; unfold clip; omega)], I.below⟩
   refine zb I 11 (decide ((r1.cls : Int) ≥ 4)) (true) (decide_eq_true (by omega)) fun Al W I => ?_
   refine zret I (v := fun Al => .tuple #[.int .i64 0, .bool false]) fun Al W I => ?_
   first | exact ⟨by rw [hR1 (by omega)], I.below⟩ | exact ⟨by rw [hR2 (by omega) (by omega), show clip (s1 - s2) = -1 by (have := of_decide_eq_true f32; unfold clip; omega)], I.below⟩ | exact ⟨by rw [hR2 (by omega) (by omega), show clip (s1 - s2) = 1 by (have := of_decide_eq_true f36; unfold clip; omega)], I.below⟩ | exact ⟨by rw [hR2 (by omega) (by omega), show clip (s1 - s2) = 0 by (have := of_decide_eq_false f32; have := of_decide_eq_false f36; unfold clip; omega)], I.below⟩
 by_cases h2 : 4 ≤ r2.cls
 · refine zb I 11 (decide ((r1.cls : Int) ≥ 4)) (false) (decide_eq_false (by omega)) fun Al W I => ?_
   refine zb I 15 (decide ((r2.cls : Int) ≥ 4)) (true) (decide_eq_true (by omega)) fun Al W I => ?_
   refine zret I (v := fun Al => .tuple #[.int .i64 0, .bool false]) fun Al W I => ?_
   first | exact ⟨by rw [hR1 (by omega)], I.below⟩ | exact ⟨by rw [hR2 (by omega) (by omega), show clip (s1 - s2) = -1 by (have := of_decide_eq_true f32; unfold clip; omega)], I.below⟩ | exact ⟨by rw [hR2 (by omega) (by omega), show clip (s1 - s2) = 1 by (have := of_decide_eq_true f36; unfold clip; omega)], I.below⟩ | exact ⟨by rw [hR2 (by omega) (by omega), show clip (s1 - s2) = 0 by (have := of_decide_eq_false f32; have := of_decide_eq_false f36; unfold clip; omega)], I.below⟩
 refine zb I 11 (decide ((r1.cls : Int) ≥ 4)) (false) (decide_eq_false (by omega)) fun Al W I => ?_
 refine zb I 15 (decide ((r2.cls : Int) ≥ 4)) (false) (decide_eq_false (by omega)) fun Al W I => ?_
 refine zd [] I fun Al W I => ?_
 refine zk [0, 1, 3, 4] I fun I => ?_
 refine zo 2 I (fun I => ?_)
 refine zgf (hf := (fun _ _ => by kernel_rfl)) I (fun Al W I => (HS1 W).out) fun Al V Iv hzV hB Kz kz => ?_
 rintro _ W ⟨rfl, hb⟩
 refine ⟨_, rfl, kz _ _ hb fun I => ?_⟩
 clear kz Kz
 refine zo 5 I (fun I => ?_)
 refine zgf (hf := (fun _ _ => by kernel_rfl)) I (fun Al W I => (HS2 W).out) fun Al V Iv hzV hB Kz kz => ?_
 rintro _ W ⟨rfl, hb⟩
 refine ⟨_, rfl, kz _ _ hb fun I => ?_⟩
 clear kz Kz
 refine zk [6, 7] I fun I => ?_
 by_cases z1 : s1 = 0
 · by_cases z2 : s2 = 0
   · refine zb I 24 (s1 != 0) (false) (bne_eq_false_iff_eq.2 z1) fun Al W I => ?_
     refine zb I 27 (s2 != 0) (false) (bne_eq_false_iff_eq.2 z2) fun Al W I => ?_
     refine zg I (fun Al W I => (HC W I.fa.1.rd I.fa.2.1.rd I.fa.2.1.cap).out) fun Al V Iv hzV hB Kz kz => ?_
     rintro _ W ⟨rfl, hb⟩
     refine ⟨_, rfl, kz _ _ hb fun I => ?_⟩
     clear kz Kz
     exact zret I (v := fun Al => .tuple #[.int .i64 RC, .bool true]) fun Al W I => ⟨by rw [hR3 (by omega) (by omega)], I.below⟩
   refine zb I 24 (s1 != 0) (false) (bne_eq_false_iff_eq.2 z1) fun Al W I => ?_
   refine zb I 27 (s2 != 0) (true) (bne_iff_ne.2 z2) fun Al W I => ?_
   rcases Bool.eq_false_or_eq_true (decide (s1 < s2)) with f32 | f32
   · refine zb I 32 (decide (s1 < s2)) (true) (f32) fun Al W I => ?_
     refine zret I (v := fun Al => .tuple #[.int .i64 (-1), .bool true]) fun Al W I => ?_
     first | exact ⟨by rw [hR1 (by omega)], I.below⟩ | exact ⟨by rw [hR2 (by omega) (by omega), show clip (s1 - s2) = -1 by (have := of_decide_eq_true f32; unfold clip; omega)], I.below⟩ | exact ⟨by rw [hR2 (by omega) (by omega), show clip (s1 - s2) = 1 by (have := of_decide_eq_true f36; unfold clip; omega)], I.below⟩ | exact ⟨by rw [hR2 (by omega) (by omega), show clip (s1 - s2) = 0 by (have := of_decide_eq_false f32; have := of_decide_eq_false f36; unfold clip; omega)], I.below⟩
   refine zb I 32 (decide (s1 < s2)) (false) (f32) fun Al W I => ?_
   rcases Bool.eq_false_or_eq_true (decide (s1 > s2)) with f36 | f36
   · refine zb I 36 (decide (s1 > s2)) (true) (f36) fun Al W I => ?_
     refine zret I (v := fun Al => .tuple #[.int .i64 1, .bool true]) fun Al W I => ?_
     first | exact ⟨by rw [hR1 (by omega)], I.below⟩ | exact ⟨by rw [hR2 (by omega) (by omega), show clip (s1 - s2) = -1 by (have := of_decide_eq_true f32; unfold clip; omega)], I.below⟩ | exact ⟨by rw [hR2 (by omega) (by omega), show clip (s1 - s2) = 1 by (have := of_decide_eq_true f36; unfold clip; omega)], I.below⟩ | exact ⟨by rw [hR2 (by omega) (by omega), show clip (s1 - s2) = 0 by (have := of_decide_eq_false f32; have := of_decide_eq_false f36; unfold clip; omega)], I.below⟩
   refine zb I 36 (decide (s1 > s2)) (false) (f36) fun Al W I => ?_
   refine zret I (v := fun Al => .tuple #[.int .i64 0, .bool true]) fun Al W I => ?_
   first | exact ⟨by rw [hR1 (by omega)], I.below⟩ | exact ⟨by rw [hR2 (by omega) (by omega), show clip (s1 - s2) = -1 by (have := of_decide_eq_true f32; unfold clip; omega)], I.below⟩ | exact ⟨by rw [hR2 (by omega) (by omega), show clip (s1 - s2) = 1 by (have := of_decide_eq_true f36; unfold clip; omega)], I.below⟩ | exact ⟨by rw [hR2 (by omega) (by omega), show clip (s1 - s2) = 0 by (have := of_decide_eq_false f32; have := of_decide_eq_false f36; unfold clip; omega)], I.below⟩
 by_cases z2 : s2 = 0
 · refine zb I 24 (s1 != 0) (true) (bne_iff_ne.2 z1) fun Al W I => ?_
   rcases Bool.eq_false_or_eq_true (decide (s1 < s2)) with f32 | f32
   · refine zb I 32 (decide (s1 < s2)) (true) (f32) fun Al W I => ?_
     refine zret I (v := fun Al => .tuple #[.int .i64 (-1), .bool true]) fun Al W I => ?_
     first | exact ⟨by rw [hR1 (by omega)], I.below⟩ | exact ⟨by rw [hR2 (by omega) (by omega), show clip (s1 - s2) = -1 by (have := of_decide_eq_true f32; unfold clip; omega)], I.below⟩ | exact ⟨by rw [hR2 (by omega) (by omega), show clip (s1 - s2) = 1 by (have := of_decide_eq_true f36; unfold clip; omega)], I.below⟩ | exact ⟨by rw [hR2 (by omega) (by omega), show clip (s1 - s2) = 0 by (have := of_decide_eq_false f32; have := of_decide_eq_false f36; unfold clip; omega)], I.below⟩
   refine zb I 32 (decide (s1 < s2)) (false) (f32) fun Al W I => ?_
   rcases Bool.eq_false_or_eq_true (decide (s1 > s2)) with f36 | f36
   · refine zb I 36 (decide (s1 > s2)) (true) (f36) fun Al W I => ?_
     refine zret I (v := fun Al => .tuple #[.int .i64 1, .bool true]) fun Al W I => ?_
     first | exact ⟨by rw [hR1 (by omega)], I.below⟩ | exact ⟨by rw [hR2 (by omega) (by omega), show clip (s1 - s2) = -1 by (have := of_decide_eq_true f32; unfold clip; omega)], I.below⟩ | exact ⟨by rw [hR2 (by omega) (by omega), show clip (s1 - s2) = 1 by (have := of_decide_eq_true f36; unfold clip; omega)], I.below⟩ | exact ⟨by rw [hR2 (by omega) (by omega), show clip (s1 - s2) = 0 by (have := of_decide_eq_false f32; have := of_decide_eq_false f36; unfold clip; omega)], I.below⟩
   refine zb I 36 (decide (s1 > s2)) (false) (f36) fun Al W I => ?_
   refine zret I (v := fun Al => .tuple #[.int .i64 0, .bool true]) fun Al W I => ?_
   first | exact ⟨by rw [hR1 (by omega)], I.below⟩ | exact ⟨by rw [hR2 (by omega) (by omega), show clip (s1 - s2) = -1 by (have := of_decide_eq_true f32; unfold clip; omega)], I.below⟩ | exact ⟨by rw [hR2 (by omega) (by omega), show clip (s1 - s2) = 1 by (have := of_decide_eq_true f36; unfold clip; omega)], I.below⟩ | exact ⟨by rw [hR2 (by omega) (by omega), show clip (s1 - s2) = 0 by (have := of_decide_eq_false f32; have := of_decide_eq_false f36; unfold clip; omega)], I.below⟩
 refine zb I 24 (s1 != 0) (true) (bne_iff_ne.2 z1) fun Al W I => ?_
 rcases Bool.eq_false_or_eq_true (decide (s1 < s2)) with f32 | f32
 · refine zb I 32 (decide (s1 < s2)) (true) (f32) fun Al W I => ?_
   refine zret I (v := fun Al => .tuple #[.int .i64 (-1), .bool true]) fun Al W I => ?_
   first | exact ⟨by rw [hR1 (by omega)], I.below⟩ | exact ⟨by rw [hR2 (by omega) (by omega), show clip (s1 - s2) = -1 by (have := of_decide_eq_true f32; unfold clip; omega)], I.below⟩ | exact ⟨by rw [hR2 (by omega) (by omega), show clip (s1 - s2) = 1 by (have := of_decide_eq_true f36; unfold clip; omega)], I.below⟩ | exact ⟨by rw [hR2 (by omega) (by omega), show clip (s1 - s2) = 0 by (have := of_decide_eq_false f32; have := of_decide_eq_false f36; unfold clip; omega)], I.below⟩
 refine zb I 32 (decide (s1 < s2)) (false) (f32) fun Al W I => ?_
 rcases Bool.eq_false_or_eq_true (decide (s1 > s2)) with f36 | f36
 · refine zb I 36 (decide (s1 > s2)) (true) (f36) fun Al W I => ?_
   refine zret I (v := fun Al => .tuple #[.int .i64 1, .bool true]) fun Al W I => ?_
   first | exact ⟨by rw [hR1 (by omega)], I.below⟩ | exact ⟨by rw [hR2 (by omega) (by omega), show clip (s1 - s2) = -1 by (have := of_decide_eq_true f32; unfold clip; omega)], I.below⟩ | exact ⟨by rw [hR2 (by omega) (by omega), show clip (s1 - s2) = 1 by (have := of_decide_eq_true f36; unfold clip; omega)], I.below⟩ | exact ⟨by rw [hR2 (by omega) (by omega), show clip (s1 - s2) = 0 by (have := of_decide_eq_false f32; have := of_decide_eq_false f36; unfold clip; omega)], I.below⟩
 refine zb I 36 (decide (s1 > s2)) (false) (f36) fun Al W I => ?_
 refine zret I (v := fun Al => .tuple #[.int .i64 0, .bool true]) fun Al W I => ?_
 first | exact ⟨by rw [hR1 (by omega)], I.below⟩ | exact ⟨by rw [hR2 (by omega) (by omega), show clip (s1 - s2) = -1 by (have := of_decide_eq_true f32; unfold clip; omega)], I.below⟩ | exact ⟨by rw [hR2 (by omega) (by omega), show clip (s1 - s2) = 1 by (have := of_decide_eq_true f36; unfold clip; omega)], I.below⟩ | exact ⟨by rw [hR2 (by omega) (by omega), show clip (s1 - s2) = 0 by (have := of_decide_eq_false f32; have := of_decide_eq_false f36; unfold clip; omega)], I.below⟩

theorem j0x (n : Int) (s t : ByteArray) (w : World) (hT : TabW w) : Calls Tryz.prog 7 #[.int .i64 n, .string s, .string t] w fun en w' => en = .returned (.bool true) ∧ Below w.heap.size w w' := by
 have HB0 := fun W h => Lib.hid (m0r W h)
 have HR := fun W h => Lib.hid (r0l n s t W h)
 unfold p0l at HR
 by_cases h0 : errR n 1 [s, t] = 0
 · obtain ⟨hn, hL, hw⟩ := i0x h0
   simp only [h0, if_true] at HR
   have HO := fun W b h => Lib.hid (w0f n 1 s t b W h h0)
   have A1 := (m0m (s := s) hn).ok
   have B1 := (m0m (s := t) hn).ok
   have HF := fun W p1 c1 p2 c2 b1 b2 h1 h2 => Lib.hid (k0k (refD n s) (refD n t) p1 p2 c1 c2 b1 b2 W h1 h2 A1 B1)
   generalize refD n s = r1 at *
   generalize refD n t = r2 at *
   obtain ⟨k, g, hS⟩ : ∃ k g, cmpR r1 r2 = (k, g) := ⟨_, _, rfl⟩
   simp only [hS] at HF HR
   clear hS A1 B1 h0 hL
   have I := Inv.start w [tabF] ⟨hT, True.intro⟩
   refine a0b [.v (.int .i64 n), .v (.string s), .v (.string t)] I Tryz.func7 ?_
   refine zg I (fun Al W I => (HR W I.fa.1).out) fun Al V Iv hzV hB Kz kz => ?_
   rintro _ W ⟨rfl, hb⟩
   refine ⟨_, rfl, kz _ _ hb fun I => ?_⟩
   clear kz Kz
   refine zg I (fun Al W I => (HO W _ (I.box 0 9 _)).out) fun Al V Iv hzV hB Kz kz => ?_
   rintro _ W ⟨p1, c1, p2, c2, p, c, rfl, oS, o1, o2, hb⟩
   refine ⟨_, rfl, kz _ _ hb fun I => ?_⟩
   clear kz Kz
   have I := I.owns oS
   have I := I.rf o1 (hB _) Iv
   have I := I.rf o2 (hB _) Iv
   refine zd [] I fun Al W I => ?_
   refine zk [0, 3] I fun I => ?_
   refine e0k I [(1, .v (.pointer (some (at_ p (0 * 5))))), (2, .v (.agg #[.int .i64 (r1.cls : Int), .bool r1.neg, .bool r1.x.neg, .slice p1 (dig B16 r1.x.m).length c1, .int .i64 r1.x.e])), (4, .v (.pointer (some (at_ p (1 * 5))))), (5, .v (.agg #[.int .i64 (r2.cls : Int), .bool r2.neg, .bool r2.x.neg, .slice p2 (dig B16 r2.x.m).length c2, .int .i64 r2.x.e]))] (fun Al W I => ?_) (fun KL17 => ?_)
   · refine zo 6 I (fun I => ?_)
     refine zg I (fun Al W I => (HF W p1 c1 p2 c2 _ _ I.fa.2.1 I.fa.1).out) fun Al V Iv hzV hB Kz kz => ?_
     rintro _ W ⟨rfl, hb⟩
     refine ⟨_, rfl, kz _ _ hb fun I => ?_⟩
     clear kz Kz
     refine zk [7, 8, 9, 10, 11] I fun I => ?_
     refine zg I (fun Al W I => (HB0 W I.fa.2.2.2.1).out) fun Al V Iv hzV hB Kz kz => ?_
     rintro _ W ⟨rfl, hb⟩
     refine ⟨_, rfl, kz _ _ hb fun I => ?_⟩
     clear kz Kz
     refine zb I 51 (k == k) (true) (beq_self_eq_true k) fun Al W I => ?_
     refine zb I 56 (g == g) (true) (beq_self_eq_true g) fun Al W I => ?_
     exact zret I fun Al W I => ⟨rfl, I.below⟩
   refine e0k I [(1, .v (.pointer (some (at_ p (0 * 5))))), (2, .v (.agg #[.int .i64 (r1.cls : Int), .bool r1.neg, .bool r1.x.neg, .slice p1 (dig B16 r1.x.m).length c1, .int .i64 r1.x.e])), (4, .v (.pointer (some (at_ p (1 * 5)))))] (fun Al W I => ?_) (fun KL15 => ?_)
   · refine zo 5 I (fun I => ?_)
     refine zx I 38 (fun _ => .agg #[.int .i64 (r2.cls : Int), .bool r2.neg, .bool r2.x.neg, .slice p2 (dig B16 r2.x.m).length c2, .int .i64 r2.x.e]) (fun Al W I => (c0n (m := 1 * 5) I.fa.2.2.1 agV (⟨r2, p2, c2⟩ : Wp).cells rfl rfl)) fun Al W I => ?_
     exact zuse KL17 I
   refine e0k I [(1, .v (.pointer (some (at_ p (0 * 5))))), (4, .v (.pointer (some (at_ p (1 * 5))))), (5, .v (.agg #[.int .i64 (r2.cls : Int), .bool r2.neg, .bool r2.x.neg, .slice p2 (dig B16 r2.x.m).length c2, .int .i64 r2.x.e]))] (fun Al W I => ?_) (fun KL16 => ?_)
   · refine zo 2 I (fun I => ?_)
     refine zx I 35 (fun _ => .agg #[.int .i64 (r1.cls : Int), .bool r1.neg, .bool r1.x.neg, .slice p1 (dig B16 r1.x.m).length c1, .int .i64 r1.x.e]) (fun Al W I => (c0n (m := 0 * 5) I.fa.2.2.1 agV (⟨r1, p1, c1⟩ : Wp).cells rfl rfl)) fun Al W I => ?_
     exact zuse KL17 I
   refine e0k I [(1, .v (.pointer (some (at_ p (0 * 5))))), (2, .v (.agg #[.int .i64 (r1.cls : Int), .bool r1.neg, .bool r1.x.neg, .slice p1 (dig B16 r1.x.m).length c1, .int .i64 r1.x.e]))] (fun Al W I => ?_) (fun KL12 => ?_)
   · refine zo 4 I (fun I => ?_)
     refine zx I 37 (fun _ => .pointer (some (at_ p (1 * 5)))) (fun Al W I => (c0e (m := 1) (n := 2) (c := c) tvV I.fa.2.2.1.solid (by omega))) fun Al W I => ?_
     exact zuse KL15 I
   refine e0k I [(1, .v (.pointer (some (at_ p (0 * 5))))), (4, .v (.pointer (some (at_ p (1 * 5)))))] (fun Al W I => ?_) (fun KL13 => ?_)
   · refine zo2 2 5 I (fun I => ?_) (fun I => ?_)
     · refine zx I 35 (fun _ => .agg #[.int .i64 (r1.cls : Int), .bool r1.neg, .bool r1.x.neg, .slice p1 (dig B16 r1.x.m).length c1, .int .i64 r1.x.e]) (fun Al W I => (c0n (m := 0 * 5) I.fa.2.2.1 agV (⟨r1, p1, c1⟩ : Wp).cells rfl rfl)) fun Al W I => ?_
       exact zuse KL15 I
     refine zx I 38 (fun _ => .agg #[.int .i64 (r2.cls : Int), .bool r2.neg, .bool r2.x.neg, .slice p2 (dig B16 r2.x.m).length c2, .int .i64 r2.x.e]) (fun Al W I => (c0n (m := 1 * 5) I.fa.2.2.1 agV (⟨r2, p2, c2⟩ : Wp).cells rfl rfl)) fun Al W I => ?_
     exact zuse KL16 I
   refine e0k I [(4, .v (.pointer (some (at_ p (1 * 5))))), (5, .v (.agg #[.int .i64 (r2.cls : Int), .bool r2.neg, .bool r2.x.neg, .slice p2 (dig B16 r2.x.m).length c2, .int .i64 r2.x.e]))] (fun Al W I => ?_) (fun KL14 => ?_)
   · refine zo 1 I (fun I => ?_)
     refine zx I 34 (fun _ => .pointer (some (at_ p (0 * 5)))) (fun Al W I => (c0e (m := 0) (n := 2) (c := c) tvV I.fa.2.2.1.solid (by omega))) fun Al W I => ?_
     exact zuse KL16 I
   refine e0k I [(1, .v (.pointer (some (at_ p (0 * 5)))))] (fun Al W I => ?_) (fun KL10 => ?_)
   · refine zo2 2 4 I (fun I => ?_) (fun I => ?_)
     · refine zx I 35 (fun _ => .agg #[.int .i64 (r1.cls : Int), .bool r1.neg, .bool r1.x.neg, .slice p1 (dig B16 r1.x.m).length c1, .int .i64 r1.x.e]) (fun Al W I => (c0n (m := 0 * 5) I.fa.2.2.1 agV (⟨r1, p1, c1⟩ : Wp).cells rfl rfl)) fun Al W I => ?_
       exact zuse KL12 I
     refine zx I 37 (fun _ => .pointer (some (at_ p (1 * 5)))) (fun Al W I => (c0e (m := 1) (n := 2) (c := c) tvV I.fa.2.2.1.solid (by omega))) fun Al W I => ?_
     exact zuse KL13 I
   refine e0k I [(4, .v (.pointer (some (at_ p (1 * 5)))))] (fun Al W I => ?_) (fun KL11 => ?_)
   · refine zo2 1 5 I (fun I => ?_) (fun I => ?_)
     · refine zx I 34 (fun _ => .pointer (some (at_ p (0 * 5)))) (fun Al W I => (c0e (m := 0) (n := 2) (c := c) tvV I.fa.2.2.1.solid (by omega))) fun Al W I => ?_
       exact zuse KL13 I
     refine zx I 38 (fun _ => .agg #[.int .i64 (r2.cls : Int), .bool r2.neg, .bool r2.x.neg, .slice p2 (dig B16 r2.x.m).length c2, .int .i64 r2.x.e]) (fun Al W I => (c0n (m := 1 * 5) I.fa.2.2.1 agV (⟨r2, p2, c2⟩ : Wp).cells rfl rfl)) fun Al W I => ?_
     exact zuse KL14 I
   refine zo2 1 4 I (fun I => ?_) (fun I => ?_)
   · refine zx I 34 (fun _ => .pointer (some (at_ p (0 * 5)))) (fun Al W I => (c0e (m := 0) (n := 2) (c := c) tvV I.fa.2.2.1.solid (by omega))) fun Al W I => ?_
     exact zuse KL10 I
   refine zx I 37 (fun _ => .pointer (some (at_ p (1 * 5)))) (fun Al W I => (c0e (m := 1) (n := 2) (c := c) tvV I.fa.2.2.1.solid (by omega))) fun Al W I => ?_
   exact zuse KL11 I
 · simp only [if_neg h0] at HR
   have HO := fun W b h => Lib.hid (m0s n 1 s t b W h h0)
   generalize errR n 1 [s, t] = er at *
   have I := Inv.start w [tabF] ⟨hT, True.intro⟩
   refine a0b [.v (.int .i64 n), .v (.string s), .v (.string t)] I Tryz.func7 ?_
   refine zg I (fun Al W I => (HR W I.fa.1).out) fun Al V Iv hzV hB Kz kz => ?_
   rintro _ W ⟨rfl, hb⟩
   refine ⟨_, rfl, kz _ _ hb fun I => ?_⟩
   clear kz Kz
   refine zg I (fun Al W I => (HO W _ (I.box 0 9 _)).out) fun Al V Iv hzV hB Kz kz => ?_
   rintro _ W ⟨rfl, hb⟩
   refine ⟨_, rfl, kz _ _ hb fun I => ?_⟩
   clear kz Kz
   refine zb I 31 (er == 0) (false) (beq_eq_false_iff_ne.2 h0) fun Al W I => ?_
   refine zg I (fun Al W I => (HB0 W I.fa.1).out) fun Al V Iv hzV hB Kz kz => ?_
   rintro _ W ⟨rfl, hb⟩
   refine ⟨_, rfl, kz _ _ hb fun I => ?_⟩
   clear kz Kz
   refine zb I 46 (er == er) (true) (beq_self_eq_true er) fun Al W I => ?_
   exact zret I fun Al W I => ⟨rfl, I.below⟩
end Go.Proofs.YtlcdfnaaenibgaaGreatDoor
