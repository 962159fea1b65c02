/- What must be in any case: 1 and 1 are 2.
   arith: Fit.
   The law ArithFits: its walk.
   Structs that came in, as a row hands them to the walks: grids, ratios. -/
import Derived.Carry
import Derived.Lib.SmallJoins
import Derived.Test.YtlcdfnaaenibgaaGreatDoorZc1
import Derived.Test.YtlcdfnaaenibgaaGreatDoorZc2
import Derived.Test.YtlcdfnaaenibgaaGreatDoorZc3
import Derived.Test.YtlcdfnaaenibgaaGreatDoorZc4
import Derived.Test.YtlcdfnaaenibgaaGreatDoorZc5
import Derived.Test.YtlcdfnaaenibgaaGreatDoorZc6
import Derived.Test.YtlcdfnaaenibgaaGreatDoorZc7
import Derived.Test.YtlcdfnaaenibgaaGreatDoorZc8
set_option maxHeartbeats 8000000
set_option maxRecDepth 100000
namespace Go.Proofs.YtlcdfnaaenibgaaGreatDoor
open Go.RowKit Go.Slip

theorem u0n {m k : Nat} (h1 : 2 ^ k ≤ m) (h2 : m < 2 ^ (k + 1)) : blen m = k + 1 := by
 have a := (b0i m (k + 1)).2 h2
 have b : ¬ blen m ≤ k := fun h => by have := (b0i m k).1 h; omega
 omega
def oneS : ByteArray := b0j [63, 128, 0, 0]
def twoS : ByteArray := b0j [64, 0, 0, 0]
theorem i1i : b0e (fmt 1) oneS = 1065353216 := by
 unfold b0e oneS
 rw [q0h (by decide)]
 decide +kernel
theorem i1j : b0x 1 oneS = 0 := f0e.2 ⟨by decide, by unfold oneS; rw [w0f]; rfl⟩
theorem i1k : refD 1 oneS = ⟨2, false, ⟨false, 1, 0⟩⟩ := by
 unfold refD
 rw [i1i]
 have hd : (fmt 1).decN 1065353216 = ⟨2, 8388608, -23⟩ := by kernel_rfl
 have hg : (fmt 1).neg 1065353216 = false := by decide +kernel
 unfold Fm.refN Fm.vr
 rw [hd, hg]
 have ht : tz 8388608 = 23 := l0l 1 23 rfl
 have hw : wid (fmt 1).g = 1 := by decide
 unfold Dc.c bare
 simp [ht, hw]
theorem i1l : j0y ⟨false, 1, 0⟩ ⟨false, 1, 0⟩ = ⟨false, 1, 1⟩ := by
 rw [w0o _ _ (e := 0) (by decide) (by decide)]
 have hz : zOf ⟨false, 1, 0⟩ 0 + zOf ⟨false, 1, 0⟩ 0 = 2 := by decide
 rw [hz]
 have ht : tz 2 = 1 := l0l 1 1 rfl
 unfold norm ofZ bare
 simp [ht]
theorem i1m : (fmt 1).addM ⟨2, false, ⟨false, 1, 0⟩⟩ ⟨2, false, ⟨false, 1, 0⟩⟩ 1 = (⟨2, false, ⟨false, 1, 1⟩⟩, 0) := by
 have hK : theK 1 1 1 1 24 = -22 := by
  have h := t0f (m := 1) (by decide) 1 (w := 1) (D := 24) (by decide) (by decide)
  rw [show blen 1 = 1 from u0n (k := 0) (by decide) (by decide)] at h
  exact g1m (by decide) (by decide) (by decide) (by decide) h
 have hR : a0l false 1 1 1 (fmt 1).g 1 = ⟨false, 8388608, -22, true, false, false⟩ := by
  unfold a0l
  rw [if_neg (by decide), show wid (fmt 1).g = 1 from rfl, show (fmt 1).g.digs.toNat = 24 from rfl, hK]
  kernel_rfl
 have ht : tz 8388608 = 23 := l0l 1 23 rfl
 unfold Fm.addM
 rw [if_neg (by decide), if_neg (by decide)]
 unfold Fm.sumM
 rw [i1l, if_pos (by decide)]
 unfold Fm.numM
 rw [if_neg (by decide), hR]
 unfold Fm.placedM Fm.flP bare
 have hw : wid (fmt 1).g = 1 := by decide
 simp [ht, hw]
theorem i1n : strR 1 ⟨2, false, ⟨false, 1, 1⟩⟩ = twoS := by
 have hb : blen 1 = 1 := u0n (k := 0) (by decide) (by decide)
 have h24 : blen 8388608 = 24 := u0n (k := 23) (by decide) (by decide)
 have hs : c0p ⟨false, 1, 1⟩ (fmt 1).g = -22 := by
  unfold c0p upK topD
  simp only [hb]
  decide
 have hf : (fmt 1).fr ⟨false, 1, 1⟩ = 8388608 := by
  unfold Fm.fr
  rw [hs]
  decide
 have hn : (fmt 1).numP ⟨false, 1, 1⟩ = ⟨false, 128, 0⟩ := by
  unfold Fm.numP
  rw [hf, hs, h24]
  kernel_rfl
 have he : (fmt 1).encP 2 false ⟨false, 1, 1⟩ = ⟨false, 128, 0⟩ := hn
 have h2 : (fmt 1).strP ⟨false, 128, 0⟩ = [64, 0, 0, 0] := by decide +kernel
 unfold strR twoS
 simp only
 rw [he, h2]
theorem e1u : errR 1 1 [oneS, oneS] = 0 := by
 unfold errR errL errL errL
 rw [i1j]
 decide

theorem n0s (w : World) (hT : TabW w) : Calls Tryz.prog 13 #[] w fun en w' => en = .returned (.bool true) ∧ Below w.heap.size w w' := by
 have HA : ∀ W, TabW W → Hid (Calls Tryz.prog 10 #[.int .i64 1, .string oneS, .string oneS, .int .i64 1] W fun en w' => en = .returned (.tuple #[.string twoS, .int .i64 0, .int .i64 0]) ∧ Below W.heap.size W w') := by
  intro W h
  have := e1t 1 1 oneS oneS W h
  unfold q0m at this
  rw [e1u, i1k, i1m] at this
  simp only [i1n, if_true] at this
  exact Lib.hid this
 refine calls_of_wp Tryz.func13 rfl ?_
 refine b0c (a' := ⟨(us 26 []).toArray, []⟩) (by kernel_rfl) ?_
 refine yq ?_
 refine ye ?_
 refine ywv 0 rfl 5 (.slice (some ⟨w.heap.size, 0, none⟩) 4 4) #[.int .u8 63, .int .u8 128, .int .u8 0, .int .u8 0] 5 (fun V1 hbV1 hzV1 b5 => ?_)
 refine yv 0 rfl 6 (.string oneS) ?_ (j0j (p := some ⟨w.heap.size, 0, none⟩) (n := 4) (c := 4) (xs := [63, 128, 0, 0]) o0j x0c uStr (b1p b5) rfl (by kernel_rfl))
 refine yzt 1 ?_
 refine ye ?_
 replace hT := (hT.past hbV1)
 refine yc 2 rfl 10 ((HA V1 hT).out) (fun Gx hGx => ?_)
 rintro eV2 V2 ⟨rfl, hbV2⟩
 have hzV2 := hbV2.size
 refine ⟨_, rfl, hGx _ _ ?_⟩
 clear hGx Gx
 refine yzt 7 ?_
 refine ye ?_
 refine ywv 8 rfl 22 (.slice (some ⟨V2.heap.size, 0, none⟩) 4 4) #[.int .u8 64, .int .u8 0, .int .u8 0, .int .u8 0] 5 (fun V3 hbV3 hzV3 b22 => ?_)
 refine yv 0 rfl 23 (.string twoS) ?_ (j0j (p := some ⟨V2.heap.size, 0, none⟩) (n := 4) (c := 4) (xs := [64, 0, 0, 0]) o0j x0c uStr (b1p b22) rfl (by kernel_rfl))
 refine yv 0 rfl 24 (.bool true) ?_ (e1g (s := twoS) (by kernel_rfl) (by kernel_rfl))
 refine yzt 2 ?_
 refine wp_ret ?_
 repeat (first | with_reducible refine a0w ?_ | with_reducible refine a0o ?_)
 refine yret (.bool true) (res1 Tryz.results13 rvt) ?_
 exact ⟨rfl, (a0a (a0a hbV1 hbV2) hbV3)⟩

theorem k0u (n : Int) (r : Vr) (fl : Nat) (p : Option Addr) (c base : Nat) (w : World) (hn : IsFm n) (hp : Rf w base p c (dig B16 r.x.m)) (R : ResF (fmt n) r) :
 Calls Tryz.prog 14 #[.int .i64 n, .string (strR n r), .int .i64 (fl : Int), .int .i64 0, .int .i64 0, .agg #[.int .i64 (r.cls : Int), .bool r.neg, .bool r.x.neg, .slice p (dig B16 r.x.m).length c, .int .i64 r.x.e], .int .i64 (fl : Int)] w fun en w' => en = .returned (.bool true) ∧ Below w.heap.size w w' := by
 have hg := (b0g hn).g
 have hl : (dig B16 r.x.m).length ≤ 2400 := by
  by_cases h2 : r.cls = 2
  · have := v0c hg (R.c2 h2).1
    have := j0b r.x.m
    omega
  · rw [R.x0 h2]; show (dig B16 0).length ≤ _; rw [a0c]; decide
 have HE := fun W h => Lib.hid (m0x n r p c base W hn h hl (fun h2 => ⟨(R.c2 h2).1, (R.c2 h2).2.2.1, (R.c2 h2).2.1, (R.c2 h2).2.2.2, v0c hg (R.c2 h2).1⟩))
 have hs : b0j ((fmt n).strP ((fmt n).encP r.cls r.neg r.x)) = strR n r := rfl
 rw [hs] at HE
 generalize strR n r = s at *
 have I := Inv.start w [rfF base p c (dig B16 r.x.m)] ⟨hp, True.intro⟩
 refine a0d [.v (.int .i64 n), .v (.string s), .v (.int .i64 (fl : Int)), .v (.int .i64 0), .v (.int .i64 0), .v (.agg #[.int .i64 (r.cls : Int), .bool r.neg, .bool r.x.neg, .slice p (dig B16 r.x.m).length c, .int .i64 r.x.e]), .v (.int .i64 (fl : Int))] I Tryz.func14 ?_
 refine zg I (fun Al W I => (HE W I.fa.1).out) fun Al V Iv hzV hB Kz kz => ?_
 rintro _ W ⟨rfl, hb⟩
 refine ⟨_, rfl, kz _ _ hb fun I => ?_⟩
 clear kz Kz
 refine zbin I 27 _ (fun _ _ _ _ _ => a1j s) fun Al W I => ?_
 refine zb I 32 ((fl : Int) == (fl : Int)) (true) (beq_self_eq_true _) fun Al W I => ?_
 exact zret I fun Al W I => ⟨rfl, I.below⟩
theorem q0n (n er fl : Int) (v : Value) (hv : ∃ k g h q l c e, v = .agg #[.int .i64 k, .bool g, .bool h, .slice q l c, .int .i64 e]) (w : World) (he : er ≠ 0) :
 Calls Tryz.prog 14 #[.int .i64 n, .string (b0j []), .int .i64 0, .int .i64 er, .int .i64 er, v, .int .i64 fl] w fun en w' => en = .returned (.bool true) ∧ Below w.heap.size w w' := by
 obtain ⟨k, g, h, q, l, c, e, rfl⟩ := hv
 have I := Inv.start w [] True.intro
 refine a0d [.v (.int .i64 n), .v (.string (b0j [])), .v (.int .i64 0), .v (.int .i64 er), .v (.int .i64 er), .v (.agg #[.int .i64 k, .bool g, .bool h, .slice q l c, .int .i64 e]), .v (.int .i64 fl)] I Tryz.func14 ?_
 refine zb I 17 (er == 0) (false) (beq_eq_false_iff_ne.2 he) fun Al W I => ?_
 refine zb I 23 (er == er) (true) (beq_self_eq_true _) fun Al W I => ?_
 refine zbin I 27 _ (fun _ _ _ _ _ => a1j (b0j [])) fun Al W I => ?_
 exact zret I fun Al W I => ⟨rfl, I.below⟩

def fitE (n : Int) (a : Rin) (way : Int) : Int := if IsFm n then b0y a (fmt n).g way else 6
def fitR (n : Int) (a : Rin) (way : Int) : Vr × Nat := if a.xs.length = 0 then (⟨1, false, vz⟩, 0) else (fmt n).placedM (a0l a.g (val B32 a.xs) (val B32 a.ys) a.e (fmt n).g way) way
structure l1h (n : Int) (a : Rin) (num den : Nat) (way : Int) : Prop where
 fm : IsFm n
 wy : 1 ≤ way ∧ way ≤ 5
 r0 : b0y a (fmt n).g way = 0
 t0 : c0x a = 0
 xs : a.xs = dig B32 num
 ys : a.ys = dig B32 den
 d0 : 0 < den
 lx : (dig B32 num).length ≤ 1200
 ly : (dig B32 den).length ≤ 1200
 e : -20000 ≤ a.e ∧ a.e ≤ 20000
theorem f1y {n : Int} {a : Rin} {way : Int} (h1 : ∀ x ∈ a.xs, x < B32) (h2 : ∀ x ∈ a.ys, x < B32) (h : fitE n a way = 0) : l1h n a (val B32 a.xs) (val B32 a.ys) way := by
 unfold fitE at h
 split at h
 · rename_i hn
   have hr0 : c0x a = 0 := by
    unfold b0y at h
    by_cases h : c0x a = 0
    · exact h
    · rename_i h9; rw [if_pos h] at h9; exact absurd h9 h
   have hg0 : errG (fmt n).g = 0 := (b0g hn).g
   have hw : 1 ≤ way ∧ way ≤ 5 := by
    unfold b0y at h
    rw [hr0, hg0, if_neg (by simp), if_neg (by simp)] at h
    by_cases k : way < 1 ∨ 5 < way
    · rw [if_pos k] at h; omega
    · omega
   have hx0 : a0q a.xs = 0 ∧ a0q a.ys = 0 ∧ 0 < a.ys.length ∧ -20000 ≤ a.e ∧ a.e ≤ 20000 := by
    unfold c0x at hr0
    by_cases h1 : a0q a.xs = 0
    · rw [if_neg (by simpa using h1)] at hr0
      by_cases h2 : a0q a.ys = 0
      · rw [if_neg (by simpa using h2)] at hr0
        by_cases h3 : a.ys.length = 0 ∨ a.e < -20000 ∨ 20000 < a.e
        · rw [if_pos h3] at hr0; simp at hr0
        · exact ⟨h1, h2, by omega, by omega, by omega⟩
      · rw [if_pos h2] at hr0; exact absurd hr0 h2
    · rw [if_pos h1] at hr0; exact absurd hr0 h1
   obtain ⟨hx1, hx2, hx3, hx4⟩ := hx0
   obtain ⟨ex, lx⟩ := e0b h1 hx1
   obtain ⟨ey, ly⟩ := e0b h2 hx2
   refine ⟨hn, hw, h, hr0, ex, ey, ?_, by rw [← ex]; exact lx, by rw [← ey]; exact ly, hx4⟩
   rcases Nat.eq_zero_or_pos (val B32 a.ys) with h | h
   · rw [h, a0c] at ey; rw [ey] at hx3; simp at hx3
   · exact h
 · omega
theorem q0o (n : Int) (hn : IsFm n) : ResF (fmt n) ⟨1, false, vz⟩ := by
 have := n0b (b0g hn) false
 unfold Fm.zeroM at this
 exact this
theorem i1o {n : Int} {a : Rin} {num den : Nat} {way : Int} (F : l1h n a num den way) : ResF (fmt n) (fitR n a way).1 := by
 unfold fitR
 split
 · exact q0o n F.fm
 · refine (g0c (b0g F.fm) ?_).1
   rw [F.ys, a0y a0b]
   exact F.d0
theorem c1b (n way : Int) (u : Nat) (w : World) (U : Bt w u 139 #[.int .i64 n, .int .i64 way, .int .i64 (fmt n).g.rad, .int .i64 (fmt n).g.digs, .int .i64 (fmt n).g.lo, .int .i64 (fmt n).g.hi, .bool (fmt n).g.grad, .int .u8 (famB (fmt n)), .int .i64 0]) (hn : IsFm n) (hT : TabW w) :
 Calls Tryz.prog 60 #[.pointer (some ⟨u, 0, none⟩), .agg #[.int .i64 1, .bool false, .slice none 0 0, .int .i64 0]] w fun en w' => en = .returned (.tuple #[.string (strR n ⟨1, false, vz⟩), .int .i64 0, .int .i64 0]) ∧ Below w.heap.size w w' := by
 have := b1v n way 0 ⟨⟨1, false, 0, 0⟩, none, 0⟩ ⟨1, false, vz⟩ 0 u w U (by simp only [a0c]; exact Own.nil _ _ _ _) hn (e0v (by omega)) (q0o n hn) hT
 simp only [a0c, List.length_nil] at this
 exact this

theorem i1p (n : Int) (a : Rin) (way : Int) (w : World) (ha : InR w a) (hT : TabW w) (h0 : fitE n a way = 0) :
 Calls Tryz.prog 25 #[.int .i64 n, .agg #[.bool a.g, .slice a.p a.xs.length a.c, .slice a.q a.ys.length a.d, .int .i64 a.e], .int .i64 way] w fun en w' => en = .returned (.tuple #[.string (strR n (fitR n a way).1), .int .i64 (((fitR n a way).2 : Nat) : Int), .int .i64 0]) ∧ Below w.heap.size w w' := by
 have F := f1y ha.b1 ha.b2 h0
 have hn := F.fm
 have he : h0l n = 0 := by unfold h0l; rw [if_pos hn]
 have HG := fun W => Lib.hid (j0r n W)
 rw [he] at HG
 have HR := fun W h1 h2 => Lib.hid (r0x a (fmt n).g way W ⟨h1, ha.l1, ha.b1, h2, ha.l2, ha.b2⟩)
 rw [F.r0] at HR
 have HO := fun W => Lib.hid (q0l n way W hn F.wy)
 have HZ := fun W u h => Lib.hid (j0q (fmt n) n way 0 false u W h)
 rw [Bool.false_and] at HZ
 have HT0 := fun W u h1 h2 => Lib.hid (c1b n way u W h1 hn h2)
 by_cases hz : a.xs.length = 0
 · have hR : fitR n a way = (⟨1, false, vz⟩, 0) := by unfold fitR; rw [if_pos hz]
   rw [hR]
   simp only
   have r1 := ha.r1
   have r2 := ha.r2
   generalize strR n ⟨1, false, vz⟩ = s at *
   generalize i0o a (fmt n).g way = P at *
   generalize fmt n = f at *
   clear F ha hR
   have I := Inv.start w [rdF .u32 a.p a.xs, rdF .u32 a.q a.ys, tabF] ⟨r1, r2, hT, True.intro⟩
   refine a0d [.v (.int .i64 n), .v (.agg #[.bool a.g, .slice a.p a.xs.length a.c, .slice a.q a.ys.length a.d, .int .i64 a.e]), .v (.int .i64 way)] I Tryz.func25 ?_
   refine zg I (fun Al W I => (HG W).out) fun Al V Iv hzV hB Kz kz => ?_
   rintro _ W ⟨rfl, hb⟩
   refine ⟨_, rfl, kz _ _ hb fun I => ?_⟩
   clear kz Kz
   refine zg I (fun Al W I => (HR W I.fa.1 I.fa.2.1).out) fun Al V Iv hzV hB Kz kz => ?_
   rintro _ W ⟨p27, c27, rfl, -, hb⟩
   refine ⟨_, rfl, kz _ _ hb fun I => ?_⟩
   clear kz Kz
   refine zg I (fun Al W I => (HO W).out) fun Al V Iv hzV hB Kz kz => ?_
   rintro _ W ⟨u36, rfl, hge, hB, hb⟩
   refine ⟨_, rfl, kz _ _ hb fun I => ?_⟩
   clear kz Kz
   refine x0o Iv hb 3 u36 139 [(.int .i64 n), (.int .i64 way), (.int .i64 f.g.rad), (.int .i64 f.g.digs), (.int .i64 f.g.lo), (.int .i64 f.g.hi), (.bool f.g.grad), (.int .u8 (famB f)), (.int .i64 0)] hge hB fun Al hAl_36 I => ?_
   refine x0p I 37 3 u36 hAl_36 fun Al W I => ?_
   refine zb I 42 ((a.xs.length : Int) == 0) (true) (beq_iff_eq.2 (by omega)) fun Al W I => ?_
   refine zg I (fun Al W I => (HZ W _ (I.box 3 139 _)).out) fun Al V Iv hzV hB Kz kz => ?_
   rintro _ W ⟨rfl, hb⟩
   refine ⟨_, rfl, kz _ _ hb fun I => ?_⟩
   clear kz Kz
   refine zg I (fun Al W I => (HT0 W _ (I.box 3 139 _) I.fa.2.2.1).out) fun Al V Iv hzV hB Kz kz => ?_
   rintro _ W ⟨rfl, hb⟩
   refine ⟨_, rfl, kz _ _ hb fun I => ?_⟩
   clear kz Kz
   exact zret I fun Al W I => ⟨rfl, I.below⟩
 · have hxs : a.xs = dig B32 (val B32 a.xs) := F.xs
   have hn0 : 0 < val B32 a.xs := by
    rcases Nat.eq_zero_or_pos (val B32 a.xs) with h | h
    · rw [h, a0c] at hxs; rw [hxs] at hz; simp at hz
    · exact h
   have HF := fun W u h1 h2 h3 => Lib.hid (k1v (fmt n) n way a.g a.p a.q a.c a.d (val B32 a.xs) (val B32 a.ys) a.e u W h1 h2 h3 (by have := F.lx; omega) (by have := F.ly; omega) hn0 F.d0 (by have := F.e; omega) (b0g hn) F.wy)
   have hR : fitR n a way = (fmt n).placedM (a0l a.g (val B32 a.xs) (val B32 a.ys) a.e (fmt n).g way) way := by unfold fitR; rw [if_neg hz]
   have PA := g0c (b0g hn) (neg := a.g) (num := val B32 a.xs) (den := val B32 a.ys) (e := a.e) (way := way) F.d0
   rw [← F.xs, ← F.ys, ← hR] at HF
   rw [← hR] at PA
   have HT := fun W v p c base fl u h1 h2 h3 h4 => Lib.hid (b1v n way fl ⟨v, p, c⟩ (fitR n a way).1 base u W h1 h2 hn h3 PA.1 h4)
   have hV := PA.2
   have hs : strR n (fitR n a way).1 = b0j ((fmt n).strP ((fmt n).encP (fitR n a way).1.cls (fitR n a way).1.neg (fitR n a way).1.x)) := rfl
   rw [← hs] at HT
   have r1 := ha.r1
   have r2 := ha.r2
   clear hs PA hR F ha
   generalize strR n (fitR n a way).1 = s at *
   generalize (fitR n a way).2 = fl at *
   generalize (fitR n a way).1 = r at *
   generalize (fmt n).placedV (a0l a.g (val B32 a.xs) (val B32 a.ys) a.e (fmt n).g way) way = v at *
   generalize i0o a (fmt n).g way = P at *
   generalize fmt n = f at *
   have I := Inv.start w [rdF .u32 a.p a.xs, rdF .u32 a.q a.ys, tabF] ⟨r1, r2, hT, True.intro⟩
   refine a0d [.v (.int .i64 n), .v (.agg #[.bool a.g, .slice a.p a.xs.length a.c, .slice a.q a.ys.length a.d, .int .i64 a.e]), .v (.int .i64 way)] I Tryz.func25 ?_
   refine zg I (fun Al W I => (HG W).out) fun Al V Iv hzV hB Kz kz => ?_
   rintro _ W ⟨rfl, hb⟩
   refine ⟨_, rfl, kz _ _ hb fun I => ?_⟩
   clear kz Kz
   refine zg I (fun Al W I => (HR W I.fa.1 I.fa.2.1).out) fun Al V Iv hzV hB Kz kz => ?_
   rintro _ W ⟨p27, c27, rfl, -, hb⟩
   refine ⟨_, rfl, kz _ _ hb fun I => ?_⟩
   clear kz Kz
   refine zg I (fun Al W I => (HO W).out) fun Al V Iv hzV hB Kz kz => ?_
   rintro _ W ⟨u36, rfl, hge, hB, hb⟩
   refine ⟨_, rfl, kz _ _ hb fun I => ?_⟩
   clear kz Kz
   refine x0o Iv hb 3 u36 139 [(.int .i64 n), (.int .i64 way), (.int .i64 f.g.rad), (.int .i64 f.g.digs), (.int .i64 f.g.lo), (.int .i64 f.g.hi), (.bool f.g.grad), (.int .u8 (famB f)), (.int .i64 0)] hge hB fun Al hAl_36 I => ?_
   refine x0p I 37 3 u36 hAl_36 fun Al W I => ?_
   refine zb I 42 ((a.xs.length : Int) == 0) (false) (beq_eq_false_iff_ne.2 (by omega)) fun Al W I => ?_
   refine zge I 3 139 (fun Al W I => (HF W _ (I.box 3 139 _) I.fa.1 I.fa.2.1).out) fun Al V Iv hzV Kz kz => ?_
   rintro _ W ⟨p53, c53, rfl, o53, hO, hB⟩
   refine ⟨_, rfl, kz _ [.v (.int .i64 n), .v (.int .i64 way), .v (.int .i64 f.g.rad), .v (.int .i64 f.g.digs), .v (.int .i64 f.g.lo), .v (.int .i64 f.g.hi), .v (.bool f.g.grad), .v (.int .u8 (famB f)), .v (.int .i64 (fl : Int))] _ hO hB fun I => ?_⟩
   clear kz Kz
   have I := I.own o53
   refine zg I (fun Al W I => (HT W v p53 c53 _ (fl : Int) _ (I.box 3 139 _) I.fa.1 hV I.fa.2.2.2.1).out) fun Al V Iv hzV hB Kz kz => ?_
   rintro _ W ⟨rfl, hb⟩
   refine ⟨_, rfl, kz _ _ hb fun I => ?_⟩
   clear kz Kz
   exact zret I fun Al W I => ⟨rfl, I.below⟩

theorem e1v (n : Int) (a : Rin) (way : Int) (w : World) (ha : InR w a) (hT : TabW w) (h0 : fitE n a way ≠ 0) :
 Calls Tryz.prog 25 #[.int .i64 n, .agg #[.bool a.g, .slice a.p a.xs.length a.c, .slice a.q a.ys.length a.d, .int .i64 a.e], .int .i64 way] w fun en w' => en = .returned (.tuple #[.string (b0j []), .int .i64 0, .int .i64 (fitE n a way)]) ∧ Below w.heap.size w w' := by
 have HG := fun W => Lib.hid (j0r n W)
 have r1 := ha.r1
 have r2 := ha.r2
 by_cases hn : IsFm n
 · have he : h0l n = 0 := by unfold h0l; rw [if_pos hn]
   rw [he] at HG
   have hE : fitE n a way = b0y a (fmt n).g way := by unfold fitE; rw [if_pos hn]
   rw [hE] at h0 ⊢
   have HR := fun W h1 h2 => Lib.hid (r0x a (fmt n).g way W ⟨h1, ha.l1, ha.b1, h2, ha.l2, ha.b2⟩)
   generalize b0y a (fmt n).g way = er at *
   generalize i0o a (fmt n).g way = P at *
   generalize fmt n = f at *
   have I := Inv.start w [rdF .u32 a.p a.xs, rdF .u32 a.q a.ys, tabF] ⟨r1, r2, hT, True.intro⟩
   refine a0d [.v (.int .i64 n), .v (.agg #[.bool a.g, .slice a.p a.xs.length a.c, .slice a.q a.ys.length a.d, .int .i64 a.e]), .v (.int .i64 way)] I Tryz.func25 ?_
   refine zg I (fun Al W I => (HG W).out) fun Al V Iv hzV hB Kz kz => ?_
   rintro _ W ⟨rfl, hb⟩
   refine ⟨_, rfl, kz _ _ hb fun I => ?_⟩
   clear kz Kz
   refine zg I (fun Al W I => (HR W I.fa.1 I.fa.2.1).out) fun Al V Iv hzV hB Kz kz => ?_
   rintro _ W ⟨p27, c27, rfl, -, hb⟩
   refine ⟨_, rfl, kz _ _ hb fun I => ?_⟩
   clear kz Kz
   refine zb I 31 (er != 0) (true) (bne_iff_ne.2 h0) fun Al W I => ?_
   exact zret I fun Al W I => ⟨rfl, I.below⟩
 · have he : h0l n = 6 := by unfold h0l; rw [if_neg hn]
   rw [he] at HG
   have hE : fitE n a way = 6 := by unfold fitE; rw [if_neg hn]
   rw [hE]
   generalize fmt n = f at *
   have I := Inv.start w [] True.intro
   refine a0d [.v (.int .i64 n), .v (.agg #[.bool a.g, .slice a.p a.xs.length a.c, .slice a.q a.ys.length a.d, .int .i64 a.e]), .v (.int .i64 way)] I Tryz.func25 ?_
   refine zg I (fun Al W I => (HG W).out) fun Al V Iv hzV hB Kz kz => ?_
   rintro _ W ⟨rfl, hb⟩
   refine ⟨_, rfl, kz _ _ hb fun I => ?_⟩
   clear kz Kz
   exact zret I fun Al W I => ⟨rfl, I.below⟩

theorem n0t (n way : Int) (ng : Bool) (p q : Option Addr) (c d : Nat) (num den : Nat) (e : Int) (w : World) (hn : IsFm n) (hw : 1 ≤ way ∧ way ≤ 5) (hp : Rd w .i64 p (dig B16 num)) (hq : Rd w .i64 q (dig B16 den))
 (hl : (dig B16 num).length ≤ 20000) (hl2 : (dig B16 den).length ≤ 20000) (hd : 0 < den) (he : -200000 ≤ e ∧ e ≤ 200000) :
 Calls Tryz.prog 30 #[.int .i64 n, .agg #[.bool ng, .slice p (dig B16 num).length c, .slice q (dig B16 den).length d, .int .i64 e], .int .i64 way] w (GVf w w.heap.size ((fmt n).placedM (a0l ng num den e (fmt n).g way) way)) := by
 have HF := fun W => Lib.hid (a0r n W)
 rw [decide_eq_true hn] at HF
 have G := b0g hn
 have GG := b0r G.g
 have HR := fun W h1 h2 => Lib.hid (n0p ng p q c d num den e (fmt n).g way W h1 h2 hl hl2 hd he GG hw.1 hw.2)
 have hlen := u0i (neg := ng) (num := num) (e := e) (way := way) hd GG
 have HP := fun W pp cc h1 => Lib.hid (q0k n way (a0l ng num den e (fmt n).g way) pp cc W hn hw h1 (by have := j0b (a0l ng num den e (fmt n).g way).d; omega) (e1p G hd))
 generalize a0l ng num den e (fmt n).g way = P at *
 obtain ⟨r, fl, hr⟩ : ∃ r fl, (fmt n).placedM P way = (r, fl) := ⟨_, _, rfl⟩
 rw [hr] at HP ⊢
 unfold GVf at HP
 simp only at HP
 clear hr
 generalize fmt n = f at *
 have I := Inv.start w [rdF .i64 p (dig B16 num), rdF .i64 q (dig B16 den)] ⟨hp, hq, True.intro⟩
 refine a0d [.v (.int .i64 n), .v (.agg #[.bool ng, .slice p (dig B16 num).length c, .slice q (dig B16 den).length d, .int .i64 e]), .v (.int .i64 way)] I Tryz.func30 ?_
 refine zg I (fun Al W I => (HF W).out) fun Al V Iv hzV hB Kz kz => ?_
 rintro _ W ⟨rfl, hb⟩
 refine ⟨_, rfl, kz _ _ hb fun I => ?_⟩
 clear kz Kz
 refine zg I (fun Al W I => (HR W I.fa.1 I.fa.2.1).out) fun Al V Iv hzV hB Kz kz => ?_
 rintro _ W ⟨p20, c20, rfl, o20, a20, hb⟩
 refine ⟨_, rfl, kz _ _ hb fun I => ?_⟩
 clear kz Kz
 have I := I.rdN o20 a20 (hB _) Iv
 refine zg I (fun Al W I => (HP W p20 c20 I.fa.1).out) fun Al V Iv hzV hB Kz kz => ?_
 rintro _ W ⟨p22, c22, rfl, o22, hb⟩
 refine ⟨_, rfl, kz _ _ hb fun I => ?_⟩
 clear kz Kz
 have I := I.rf o22 (hB _) Iv
 exact zret I fun Al W I => ⟨p22, c22, rfl, I.fa.1, I.below⟩

theorem n0u (n : Int) (w : World) (hn : IsFm n) :
 Calls Tryz.prog 14 #[.int .i64 n, .string (strR n ⟨1, false, vz⟩), .int .i64 0, .int .i64 0, .int .i64 0, .agg #[.int .i64 1, .bool false, .bool false, .slice none 0 0, .int .i64 0], .int .i64 0] w fun en w' => en = .returned (.bool true) ∧ Below w.heap.size w w' := by
 have := k0u n ⟨1, false, vz⟩ 0 none 0 0 w hn (n1b rfl) (q0o n hn)
 have e : (dig B16 vz.m).length = 0 := by show (dig B16 0).length = 0; rw [a0c]; rfl
 simp only [e] at this
 exact this

theorem q0p (n : Int) (a : Rin) (way : Int) (w : World) (ha : InR w a) (hT : TabW w) : Calls Tryz.prog 9 #[.int .i64 n, .agg #[.bool a.g, .slice a.p a.xs.length a.c, .slice a.q a.ys.length a.d, .int .i64 a.e], .int .i64 way] w fun en w' => en = .returned (.bool true) ∧ Below w.heap.size w w' := by
 have HB0 := fun W h => Lib.hid (n0s W h)
 have HF := fun W => Lib.hid (a0r n W)
 have HC := fun W h1 h2 => Lib.hid (k0h a W ⟨h1, ha.l1, ha.b1, h2, ha.l2, ha.b2⟩)
 have HI := fun W => Lib.hid (stay (r0y way W))
 have HZ := fun W => Lib.hid (c0c 1 false W (by decide))
 rw [Bool.false_and] at HZ
 have r1 := ha.r1
 have r2 := ha.r2
 by_cases h0 : fitE n a way = 0
 · have F := f1y ha.b1 ha.b2 h0
   have hn := F.fm
   have HA := fun W h1 h2 h3 => Lib.hid (i1p n a way W ⟨h1, ha.l1, ha.b1, h2, ha.l2, ha.b2⟩ h3 h0)
   rw [decide_eq_true hn] at HF
   rw [F.t0] at HC
   rw [j0o F.wy.1 F.wy.2] at HI
   by_cases hz : a.xs.length = 0
   · have hR : fitR n a way = (⟨1, false, vz⟩, 0) := by unfold fitR; rw [if_pos hz]
     rw [hR] at HA
     simp only at HA
     have HP := fun W => Lib.hid (n0u n W hn)
     generalize strR n ⟨1, false, vz⟩ = s at *
     generalize fmt n = f at *
     clear F hR ha
     have I := Inv.start w [rdF .u32 a.p a.xs, rdF .u32 a.q a.ys, tabF] ⟨r1, r2, hT, True.intro⟩
     refine a0d [.v (.int .i64 n), .v (.agg #[.bool a.g, .slice a.p a.xs.length a.c, .slice a.q a.ys.length a.d, .int .i64 a.e]), .v (.int .i64 way)] I Tryz.func9 ?_
     refine zg I (fun Al W I => (HA W I.fa.1 I.fa.2.1 I.fa.2.2.1).out) fun Al V Iv hzV hB Kz kz => ?_
     rintro _ W ⟨rfl, hb⟩
     refine ⟨_, rfl, kz _ _ hb fun I => ?_⟩
     clear kz Kz
     refine zg I (fun Al W I => (HF W).out) fun Al V Iv hzV hB Kz kz => ?_
     rintro _ W ⟨rfl, hb⟩
     refine ⟨_, rfl, kz _ _ hb fun I => ?_⟩
     clear kz Kz
     refine zg I (fun Al W I => (HC W I.fa.1 I.fa.2.1).out) fun Al V Iv hzV hB Kz kz => ?_
     rintro _ W ⟨rfl, hb⟩
     refine ⟨_, rfl, kz _ _ hb fun I => ?_⟩
     clear kz Kz
     refine zg I (fun Al W I => (HI W).out) fun Al V Iv hzV hB Kz kz => ?_
     rintro _ W ⟨rfl, hb⟩
     refine ⟨_, rfl, kz _ _ hb fun I => ?_⟩
     clear kz Kz
     refine zg I (fun Al W I => (HZ W).out) fun Al V Iv hzV hB Kz kz => ?_
     rintro _ W ⟨rfl, hb⟩
     refine ⟨_, rfl, kz _ _ hb fun I => ?_⟩
     clear kz Kz
     refine zb I 48 (decide ((a.xs.length : Int) > 0)) (false) (decide_eq_false (by omega)) fun Al W I => ?_
     refine zg I (fun Al W I => (HB0 W I.fa.2.2.1).out) fun Al V Iv hzV hB Kz kz => ?_
     rintro _ W ⟨rfl, hb⟩
     refine ⟨_, rfl, kz _ _ hb fun I => ?_⟩
     clear kz Kz
     refine zg I (fun Al W I => (HP W).out) fun Al V Iv hzV hB Kz kz => ?_
     rintro _ W ⟨rfl, hb⟩
     refine ⟨_, rfl, kz _ _ hb fun I => ?_⟩
     clear kz Kz
     exact zret I fun Al W I => ⟨rfl, I.below⟩
   · have HQ := fun W h1 h2 => Lib.hid (n0n a W ⟨h1, ha.l1, ha.b1, h2, ha.l2, ha.b2⟩ (by have := F.lx; rw [F.xs]; omega) (by have := F.ly; rw [F.ys]; omega))
     have l1 := j0b (val B32 a.xs)
     have l2 := j0b (val B32 a.ys)
     have HFt := fun W p q c d h1 h2 => Lib.hid (n0t n way a.g p q c d (val B32 a.xs) (val B32 a.ys) a.e W hn F.wy h1 h2 (by have := F.lx; omega) (by have := F.ly; omega) F.d0 (by have := F.e; omega))
     have hR : fitR n a way = (fmt n).placedM (a0l a.g (val B32 a.xs) (val B32 a.ys) a.e (fmt n).g way) way := by unfold fitR; rw [if_neg hz]
     rw [← hR] at HFt
     have RS := i1o F
     obtain ⟨rS, flS, hS⟩ : ∃ rS flS, fitR n a way = (rS, flS) := ⟨_, _, rfl⟩
     simp only [hS] at HFt HA RS
     unfold GVf at HFt
     simp only at HFt
     have HP := fun W p c b h => Lib.hid (k0u n rS flS p c b W hn h RS)
     unfold f1u at HQ
     generalize strR n rS = s at *
     generalize val B32 a.xs = num at *
     generalize val B32 a.ys = den at *
     clear F hR hS RS ha l1 l2
     have I := Inv.start w [rdF .u32 a.p a.xs, rdF .u32 a.q a.ys, tabF] ⟨r1, r2, hT, True.intro⟩
     refine a0d [.v (.int .i64 n), .v (.agg #[.bool a.g, .slice a.p a.xs.length a.c, .slice a.q a.ys.length a.d, .int .i64 a.e]), .v (.int .i64 way)] I Tryz.func9 ?_
     refine zg I (fun Al W I => (HA W I.fa.1 I.fa.2.1 I.fa.2.2.1).out) fun Al V Iv hzV hB Kz kz => ?_
     rintro _ W ⟨rfl, hb⟩
     refine ⟨_, rfl, kz _ _ hb fun I => ?_⟩
     clear kz Kz
     refine zg I (fun Al W I => (HF W).out) fun Al V Iv hzV hB Kz kz => ?_
     rintro _ W ⟨rfl, hb⟩
     refine ⟨_, rfl, kz _ _ hb fun I => ?_⟩
     clear kz Kz
     refine zg I (fun Al W I => (HC W I.fa.1 I.fa.2.1).out) fun Al V Iv hzV hB Kz kz => ?_
     rintro _ W ⟨rfl, hb⟩
     refine ⟨_, rfl, kz _ _ hb fun I => ?_⟩
     clear kz Kz
     refine zg I (fun Al W I => (HI W).out) fun Al V Iv hzV hB Kz kz => ?_
     rintro _ W ⟨rfl, hb⟩
     refine ⟨_, rfl, kz _ _ hb fun I => ?_⟩
     clear kz Kz
     refine zg I (fun Al W I => (HZ W).out) fun Al V Iv hzV hB Kz kz => ?_
     rintro _ W ⟨rfl, hb⟩
     refine ⟨_, rfl, kz _ _ hb fun I => ?_⟩
     clear kz Kz
     refine zb I 48 (decide ((a.xs.length : Int) > 0)) (true) (decide_eq_true (by omega)) fun Al W I => ?_
     refine zg I (fun Al W I => (HQ W I.fa.1 I.fa.2.1).out) fun Al V Iv hzV hB Kz kz => ?_
     rintro _ W ⟨p53, c53, q53, d53, rfl, s53, a53, t53, e53, hb⟩
     refine ⟨_, rfl, kz _ _ hb fun I => ?_⟩
     clear kz Kz
     have I := I.rdN s53 a53 (hB _) Iv
     have I := I.rdN t53 e53 (hB _) Iv
     refine zg I (fun Al W I => (HFt W p53 q53 c53 d53 I.fa.2.1 I.fa.1).out) fun Al V Iv hzV hB Kz kz => ?_
     rintro _ W ⟨p55, c55, rfl, o55, hb⟩
     refine ⟨_, rfl, kz _ _ hb fun I => ?_⟩
     clear kz Kz
     have I := I.rf o55 (hB _) Iv
     refine zg I (fun Al W I => (HB0 W I.fa.2.2.2.2.2.1).out) fun Al V Iv hzV hB Kz kz => ?_
     rintro _ W ⟨rfl, hb⟩
     refine ⟨_, rfl, kz _ _ hb fun I => ?_⟩
     clear kz Kz
     refine zg I (fun Al W I => (HP W p55 c55 _ I.fa.1).out) fun Al V Iv hzV hB Kz kz => ?_
     rintro _ W ⟨rfl, hb⟩
     refine ⟨_, rfl, kz _ _ hb fun I => ?_⟩
     clear kz Kz
     exact zret I fun Al W I => ⟨rfl, I.below⟩
 · have HA := fun W h1 h2 h3 => Lib.hid (e1v n a way W ⟨h1, ha.l1, ha.b1, h2, ha.l2, ha.b2⟩ h3 h0)
   have HP := fun fl v hv W => Lib.hid (q0n n (fitE n a way) fl v hv W h0)
   have hE1 : ¬ IsFm n → fitE n a way = 6 := fun h => by unfold fitE; rw [if_neg h]
   have hE2 : IsFm n → c0x a ≠ 0 → fitE n a way = c0x a := fun h k => by unfold fitE b0y; rw [if_pos h, if_pos k]
   have hE3 : IsFm n → c0x a = 0 → fitE n a way = 6 ∧ (way < 1 ∨ 5 < way) := fun h k => by
    have hg0 : errG (fmt n).g = 0 := (b0g h).g
    unfold fitE b0y at h0 ⊢
    rw [if_pos h, k, hg0, if_neg (by simp), if_neg (by simp)] at h0 ⊢
    by_cases q : way < 1 ∨ 5 < way
    · exact ⟨if_pos q, q⟩
    · rw [if_neg q] at h0; exact absurd rfl h0
   generalize fitE n a way = er at *
   by_cases hn : IsFm n
   · rw [decide_eq_true hn] at HF
     by_cases hr : c0x a = 0
     · obtain ⟨rfl, hw⟩ := hE3 hn hr
       rw [f0z hw] at HI
       rw [hr] at HC
       generalize fmt n = f at *
       clear hE1 hE2 hE3 ha
       have I := Inv.start w [rdF .u32 a.p a.xs, rdF .u32 a.q a.ys, tabF] ⟨r1, r2, hT, True.intro⟩
       refine a0d [.v (.int .i64 n), .v (.agg #[.bool a.g, .slice a.p a.xs.length a.c, .slice a.q a.ys.length a.d, .int .i64 a.e]), .v (.int .i64 way)] I Tryz.func9 ?_
       refine zg I (fun Al W I => (HA W I.fa.1 I.fa.2.1 I.fa.2.2.1).out) fun Al V Iv hzV hB Kz kz => ?_
       rintro _ W ⟨rfl, hb⟩
       refine ⟨_, rfl, kz _ _ hb fun I => ?_⟩
       clear kz Kz
       refine zg I (fun Al W I => (HF W).out) fun Al V Iv hzV hB Kz kz => ?_
       rintro _ W ⟨rfl, hb⟩
       refine ⟨_, rfl, kz _ _ hb fun I => ?_⟩
       clear kz Kz
       refine zg I (fun Al W I => (HC W I.fa.1 I.fa.2.1).out) fun Al V Iv hzV hB Kz kz => ?_
       rintro _ W ⟨rfl, hb⟩
       refine ⟨_, rfl, kz _ _ hb fun I => ?_⟩
       clear kz Kz
       refine zg I (fun Al W I => (HI W).out) fun Al V Iv hzV hB Kz kz => ?_
       rintro _ W ⟨rfl, hb⟩
       refine ⟨_, rfl, kz _ _ hb fun I => ?_⟩
       clear kz Kz
       refine zg I (fun Al W I => (HZ W).out) fun Al V Iv hzV hB Kz kz => ?_
       rintro _ W ⟨rfl, hb⟩
       refine ⟨_, rfl, kz _ _ hb fun I => ?_⟩
       clear kz Kz
       refine zg I (fun Al W I => (HB0 W I.fa.2.2.1).out) fun Al V Iv hzV hB Kz kz => ?_
       rintro _ W ⟨rfl, hb⟩
       refine ⟨_, rfl, kz _ _ hb fun I => ?_⟩
       clear kz Kz
       refine zg I (fun Al W I => (HP 0 _ ⟨1, false, false, none, 0, 0, 0, rfl⟩ W).out) fun Al V Iv hzV hB Kz kz => ?_
       rintro _ W ⟨rfl, hb⟩
       refine ⟨_, rfl, kz _ _ hb fun I => ?_⟩
       clear kz Kz
       exact zret I fun Al W I => ⟨rfl, I.below⟩
     · have he := hE2 hn hr
       rw [← he] at HC
       generalize fmt n = f at *
       clear hE1 hE2 hE3 ha hr he
       have I := Inv.start w [rdF .u32 a.p a.xs, rdF .u32 a.q a.ys, tabF] ⟨r1, r2, hT, True.intro⟩
       refine a0d [.v (.int .i64 n), .v (.agg #[.bool a.g, .slice a.p a.xs.length a.c, .slice a.q a.ys.length a.d, .int .i64 a.e]), .v (.int .i64 way)] I Tryz.func9 ?_
       refine zg I (fun Al W I => (HA W I.fa.1 I.fa.2.1 I.fa.2.2.1).out) fun Al V Iv hzV hB Kz kz => ?_
       rintro _ W ⟨rfl, hb⟩
       refine ⟨_, rfl, kz _ _ hb fun I => ?_⟩
       clear kz Kz
       refine zg I (fun Al W I => (HF W).out) fun Al V Iv hzV hB Kz kz => ?_
       rintro _ W ⟨rfl, hb⟩
       refine ⟨_, rfl, kz _ _ hb fun I => ?_⟩
       clear kz Kz
       refine zg I (fun Al W I => (HC W I.fa.1 I.fa.2.1).out) fun Al V Iv hzV hB Kz kz => ?_
       rintro _ W ⟨rfl, hb⟩
       refine ⟨_, rfl, kz _ _ hb fun I => ?_⟩
       clear kz Kz
       refine zb I 35 (er == 0) (false) (beq_eq_false_iff_ne.2 h0) fun Al W I => ?_
       refine zg I (fun Al W I => (HZ W).out) fun Al V Iv hzV hB Kz kz => ?_
       rintro _ W ⟨rfl, hb⟩
       refine ⟨_, rfl, kz _ _ hb fun I => ?_⟩
       clear kz Kz
       refine zb I 43 (er == 0) (false) (beq_eq_false_iff_ne.2 h0) fun Al W I => ?_
       refine zg I (fun Al W I => (HB0 W I.fa.2.2.1).out) fun Al V Iv hzV hB Kz kz => ?_
       rintro _ W ⟨rfl, hb⟩
       refine ⟨_, rfl, kz _ _ hb fun I => ?_⟩
       clear kz Kz
       refine zg I (fun Al W I => (HP 0 _ ⟨1, false, false, none, 0, 0, 0, rfl⟩ W).out) fun Al V Iv hzV hB Kz kz => ?_
       rintro _ W ⟨rfl, hb⟩
       refine ⟨_, rfl, kz _ _ hb fun I => ?_⟩
       clear kz Kz
       exact zret I fun Al W I => ⟨rfl, I.below⟩
   · rw [decide_eq_false hn] at HF
     obtain rfl := hE1 hn
     generalize fmt n = f at *
     clear hE1 hE2 hE3 ha
     have I := Inv.start w [rdF .u32 a.p a.xs, rdF .u32 a.q a.ys, tabF] ⟨r1, r2, hT, True.intro⟩
     refine a0d [.v (.int .i64 n), .v (.agg #[.bool a.g, .slice a.p a.xs.length a.c, .slice a.q a.ys.length a.d, .int .i64 a.e]), .v (.int .i64 way)] I Tryz.func9 ?_
     refine zg I (fun Al W I => (HA W I.fa.1 I.fa.2.1 I.fa.2.2.1).out) fun Al V Iv hzV hB Kz kz => ?_
     rintro _ W ⟨rfl, hb⟩
     refine ⟨_, rfl, kz _ _ hb fun I => ?_⟩
     clear kz Kz
     refine zg I (fun Al W I => (HF W).out) fun Al V Iv hzV hB Kz kz => ?_
     rintro _ W ⟨rfl, hb⟩
     refine ⟨_, rfl, kz _ _ hb fun I => ?_⟩
     clear kz Kz
     refine zg I (fun Al W I => (HZ W).out) fun Al V Iv hzV hB Kz kz => ?_
     rintro _ W ⟨rfl, hb⟩
     refine ⟨_, rfl, kz _ _ hb fun I => ?_⟩
     clear kz Kz
     refine zg I (fun Al W I => (HB0 W I.fa.2.2.1).out) fun Al V Iv hzV hB Kz kz => ?_
     rintro _ W ⟨rfl, hb⟩
     refine ⟨_, rfl, kz _ _ hb fun I => ?_⟩
     clear kz Kz
     refine zg I (fun Al W I => (HP 0 _ ⟨1, false, false, none, 0, 0, 0, rfl⟩ W).out) fun Al V Iv hzV hB Kz kz => ?_
     rintro _ W ⟨rfl, hb⟩
     refine ⟨_, rfl, kz _ _ hb fun I => ?_⟩
     clear kz Kz
     exact zret I fun Al W I => ⟨rfl, I.below⟩
end Go.Proofs.YtlcdfnaaenibgaaGreatDoor
namespace Go.Proofs.YtlcdfnaaenibgaaGreatDoor
open Go.ChangeShapes Go.WideShapes Go.ChangeAt Go.WideMaps Go.WideElems Go.RowKit Go.Slip Go.Joins Go.Deep

theorem u0o {H : Type} {enc : TypeId × Value → H} {P : Program} {W : World} {base : Nat} {r : Reach} {b0 : Nat} {sp : Nat → Bool} {held : Bool} {t : TypeId} {fs : Array Field} {v : Value} {d : DataW H} {p : List MemPlace}
 (hs : P.underlying t = some (.struct fs)) (hone : oneCellFields P fs = true) (hC : P.cellsOf t = fs.size) (hv : Value.okWide P W r b0 t v) (h : DataW.Trod enc P W base sp held t v d p) :
 ∃ (cs : Array Value) (n : Nat), v = .agg cs ∧ cs.size = fs.size ∧ ∀ (j : Nat) (f : Field) (c : Value), fs[j]? = some f → cs[j]? = some c → ∃ y, DataW.trod enc P W base sp held n f.type [c] = some y := by
 obtain ⟨cs, rfl, hsz⟩ := okWide_struct hs hv
 obtain ⟨fuel, hf⟩ := h
 obtain ⟨xs, n, _, _, _, hlen, hg⟩ := DataW.trod_struct hs hf
 refine ⟨cs, n, rfl, hsz.trans hC, fun j f c hj hc => ?_⟩
 obtain ⟨ho, hk⟩ := hone_of hone j f hj
 have hjl : j < fs.size := (Array.getElem?_eq_some_iff.1 hj).1
 have h1 := hg j f hj
 rw [ho, hk] at h1
 have h4 : cs.toList[j]? = some c := by simpa using hc
 have h2 : (cs.toList.drop j).take 1 = [c] := by
  rw [List.drop_eq_getElem_cons (List.getElem?_eq_some_iff.1 h4).1, (List.getElem?_eq_some_iff.1 h4).2]
  rfl
 change DataW.trod enc P W base sp held n f.type ((cs.toList.drop j).take 1) = _ at h1
 rw [h2] at h1
 rw [List.getElem?_eq_getElem (by omega)] at h1
 exact ⟨_, h1⟩

theorem arr4 {cs : Array Value} (h : cs.size = 4) : ∃ c0 c1 c2 c3, cs = #[c0, c1, c2, c3] := by
 obtain ⟨l⟩ := cs
 match l, h with
 | [c0, c1, c2, c3], _ => exact ⟨c0, c1, c2, c3, rfl⟩

theorem s0o {H : Type} {enc : TypeId × Value → H} {W : World} {n : Nat} {v : Value} {y : DataW H × List MemPlace} (h : DataW.trod enc Tryz.prog W 0 (fun _ => true) true n 48 [v] = some y) :
 ∃ (p : Option Addr) (c : Nat) (xs : List Nat), v = .slice p xs.length c ∧ Rd W .u32 p xs ∧ xs.length ≤ c ∧ xs.length ≤ 9223372036854775807 ∧ ∀ x ∈ xs, x < B32 := by
 rcases open_ints Tryz.underlying48 Tryz.underlying160 (by kernel_rfl) h with ⟨hcs, _⟩ | ⟨x, l, c, zs, hcs, _, hl, hm, hz, _, hcell, hwz⟩
 · simp only [List.cons.injEq, and_true] at hcs
   subst hcs
   exact ⟨none, 0, [], rfl, Rd.nil _ _ _, by simp, by simp, by simp⟩
 · simp only [List.cons.injEq, and_true] at hcs
   subst hcs
   have hz1 : zs.length = c := by simpa using hz
   obtain ⟨xs, hr1, hr2, hr3⟩ := s0u (len := l) (by omega) hcell hwz
   subst hr2
   refine ⟨some x, c, xs, rfl, hr1, hl, ?_, hr3⟩
   unfold maxLen at hm
   omega

theorem c1c {H : Type} {enc : TypeId × Value → H} {W : World} {n : Nat} {v : Value} {y : DataW H × List MemPlace} (h : DataW.trod enc Tryz.prog W 0 (fun _ => true) true n 3 [v] = some y) : ∃ k, v = .int .i64 k ∧ (Lit.int .i64 k).wf = true := by
 obtain ⟨k, e0, _, w⟩ := DataW.trod_int Tryz.underlying3 h
 simp only [List.cons.injEq, and_true] at e0
 exact ⟨k, e0, w⟩

theorem x0r {H : Type} {enc : TypeId × Value → H} {W : World} {n : Nat} {v : Value} {y : DataW H × List MemPlace} (h : DataW.trod enc Tryz.prog W 0 (fun _ => true) true n 4 [v] = some y) : ∃ k, v = .bool k := by
 obtain ⟨k, e0, _⟩ := DataW.trod_bool Tryz.underlying4 h
 simp only [List.cons.injEq, and_true] at e0
 exact ⟨k, e0⟩

theorem x0s {H : Type} {enc : TypeId × Value → H} {W : World} {base : Nat} {v : Value} {d : DataW H} {p : List MemPlace} (hv : Value.okWide Tryz.prog W .any base 50 v)
 (h : DataW.Trod enc Tryz.prog W 0 (fun _ => true) true 50 v d p) : ∃ a : Rin, v = .agg #[.bool a.g, .slice a.p a.xs.length a.c, .slice a.q a.ys.length a.d, .int .i64 a.e] ∧ InR W a := by
 obtain ⟨cs, n, rfl, hsz, hf⟩ := u0o Tryz.underlying50 (by kernel_rfl) (by kernel_rfl) hv h
 obtain ⟨c0, c1, c2, c3, rfl⟩ := arr4 hsz
 obtain ⟨_, h0⟩ := hf 0 _ c0 rfl rfl
 obtain ⟨_, h1⟩ := hf 1 _ c1 rfl rfl
 obtain ⟨_, h2⟩ := hf 2 _ c2 rfl rfl
 obtain ⟨_, h3⟩ := hf 3 _ c3 rfl rfl
 obtain ⟨k0, rfl⟩ := x0r h0
 obtain ⟨p1, d1, xs, rfl, r1, _, l1, b1⟩ := s0o h1
 obtain ⟨p2, d2, ys, rfl, r2, _, l2, b2⟩ := s0o h2
 obtain ⟨k3, rfl, _⟩ := c1c h3
 exact ⟨⟨k0, p1, d1, xs, p2, d2, ys, k3⟩, rfl, ⟨r1, l1, b1, r2, l2, b2⟩⟩

end Go.Proofs.YtlcdfnaaenibgaaGreatDoor
