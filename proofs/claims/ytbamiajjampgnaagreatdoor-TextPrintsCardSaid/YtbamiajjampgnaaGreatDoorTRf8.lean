/- arith: what a value at hand is; Number, raw, lost. -/
import Derived.Test.YtbamiajjampgnaaGreatDoorTRf1
import Derived.Test.YtbamiajjampgnaaGreatDoorTRf2
import Derived.Test.YtbamiajjampgnaaGreatDoorTRf3
import Derived.Test.YtbamiajjampgnaaGreatDoorTRf4
import Derived.Test.YtbamiajjampgnaaGreatDoorTRf5
import Derived.Test.YtbamiajjampgnaaGreatDoorTRf6
import Derived.Test.YtbamiajjampgnaaGreatDoorTRf7
set_option maxHeartbeats 8000000
set_option maxRecDepth 100000
namespace Go.Proofs.YtbamiajjampgnaaGreatDoor
open Go.RowKit Go.Slip
structure VrOk (r : Vr) : Prop where
 c : 1 ≤ r.cls ∧ r.cls ≤ 5
 x0 : r.cls ≠ 2 → r.x = vz
 x2 : r.cls = 2 → r.x.m ≠ 0 ∧ r.x.neg = r.neg
 bare : Bare r.x
 len : (dig B32 r.x.m).length ≤ 20
 lo : -18000 ≤ r.x.e
 hi : r.x.e ≤ 18000
def x0c (f : Fm) (n way : Int) (u : Nat) (w : World) (base : Nat) (r : Vr × Nat) (en : Ending) (w' : World) : Prop :=
 ∃ v, VRep f v r.1 ∧ j0t f n way ((r.2 : Nat) : Int) u w base v en w'
theorem x0c.mono {f : Fm} {n way : Int} {u base b' : Nat} {w w' : World} {r : Vr × Nat} {en : Ending} (h : x0c f n way u w base r en w') (hb : b' ≤ base) : x0c f n way u w b' r en w' := by
 obtain ⟨v, h1, p, k, h2, h3, h4, h5⟩ := h
 exact ⟨v, h1, p, k, h2, h3.mono hb, h4, h5⟩
structure Vp where
 v : Vl
 p : Option Addr
 c : Nat
def Vp.cells (x : Vp) : List Value := [.int .i64 (x.v.cls : Int), .bool x.v.neg, .slice x.p (dig B32 x.v.d).length x.c, .int .i64 x.v.pow]
theorem Vp.len (x : Vp) : x.cells.length = 4 := rfl
def two (a b : Vp) : List Vp := [a, b]
theorem o0h (n : Int) (w : World) : Calls Tryz.prog 64 #[.int .i64 n] w fun en w' => en = .returned (.tuple #[.agg #[.int .i64 (fmt n).g.rad, .int .i64 (fmt n).g.digs, .int .i64 (fmt n).g.lo, .int .i64 (fmt n).g.hi, .bool (fmt n).g.grad], .int .i64 (d0c n)]) ∧ Below w.heap.size w w' := by
 by_cases hn : IsFm n
 · have h0 : d0c n = 0 := by unfold d0c; rw [if_pos hn]
   rw [h0]
   have HF := fun W => hi0 (g0h n hn W)
   generalize fmt n = f at *
   have I := Inv.start w [] True.intro
   refine a0h [.v (.int .i64 n)] I Tryz.func64 ?_
   refine zq I (fun Al W I => (HF W).out) fun Al W I => ?_
   exact zrb I
 · have h0 : d0c n = 6 := by unfold d0c; rw [if_neg hn]
   rw [h0, s0a hn]
   have HF := fun W => hi0 (h0y n hn W)
   have I := Inv.start w [] True.intro
   refine a0h [.v (.int .i64 n)] I Tryz.func64 ?_
   refine zq I (fun Al W I => (HF W).out) fun Al W I => ?_
   exact zrb I
def o0i (f : Fm) (n way : Int) (w : World) (en : Ending) (w' : World) : Prop :=
 ∃ u, en = .returned (.tuple #[.pointer (some ⟨u, 0, none⟩), .int .i64 0]) ∧ w.heap.size ≤ u ∧ Bt w' u 223 #[.int .i64 n, .int .i64 way, .int .i64 f.g.rad, .int .i64 f.g.digs, .int .i64 f.g.lo, .int .i64 f.g.hi, .bool f.g.grad, .int .u8 (famB f), .int .i64 0] ∧ Below w.heap.size w w'
theorem n1t (n way : Int) (w : World) (hn : IsFm n) (hw : 1 ≤ way ∧ way ≤ 5) : Calls Tryz.prog 87 #[.int .i64 n, .int .i64 way] w (o0i (fmt n) n way w) := by
 have HG := fun W => hi0 (o0h n W)
 have he : d0c n = 0 := by unfold d0c; rw [if_pos hn]
 rw [he] at HG
 have G := c0d hn
 generalize fmt n = f at *
 have hrad := G.rad
 have hgr := G.grad
 by_cases f2 : f.fam = 2
 · have hBf : famB f = 66 := by unfold famB; rw [if_neg (by omega), if_pos f2]
   rw [if_pos f2] at hrad
   have I := Inv.start w [] True.intro
   refine a0h [.v (.int .i64 n), .v (.int .i64 way)] I Tryz.func87 ?_
   refine zq I (fun Al W I => (HG W).out) fun Al W I => ?_
   refine zb I 18 (decide (way < 1)) (false) (dFa (by omega)) fun Al W I => ?_
   refine zb I 21 (decide (way > 5)) (false) (dFa (by omega)) fun Al W I => ?_
   refine zb I 31 (f.g.rad == 16) (true) (beq_iff_eq.2 hrad) fun Al W I => ?_
   exact zret I (v := fun Al => .tuple #[.pointer (some ⟨(lk 0 Al 1), 0, none⟩), .int .i64 0]) fun Al W I => ⟨_, rfl, (I.geB 1), by rw [hBf]; exact (I.box 1 223 _), I.below⟩
 · rw [if_neg f2] at hrad
   by_cases f1 : f.fam = 1
   · have hBf : famB f = 65 := by unfold famB; rw [if_pos f1]
     rw [decide_eq_true f1] at hgr
     unfold o0i
     rw [hBf, hgr]
     simp only [hgr] at HG
     have I := Inv.start w [] True.intro
     refine a0h [.v (.int .i64 n), .v (.int .i64 way)] I Tryz.func87 ?_
     refine zq I (fun Al W I => (HG W).out) fun Al W I => ?_
     refine zb I 18 (decide (way < 1)) (false) (dFa (by omega)) fun Al W I => ?_
     refine zb I 21 (decide (way > 5)) (false) (dFa (by omega)) fun Al W I => ?_
     refine zb I 31 (f.g.rad == 16) (false) (bFn (by omega)) fun Al W I => ?_
     exact zret I fun Al W I => ⟨_, rfl, (I.geB 1), (I.box 1 223 _), I.below⟩
   · have hBf : famB f = 67 := by unfold famB; rw [if_neg f1, if_neg f2]
     rw [decide_eq_false f1] at hgr
     unfold o0i
     rw [hBf, hgr]
     simp only [hgr] at HG
     have I := Inv.start w [] True.intro
     refine a0h [.v (.int .i64 n), .v (.int .i64 way)] I Tryz.func87 ?_
     refine zq I (fun Al W I => (HG W).out) fun Al W I => ?_
     refine zb I 18 (decide (way < 1)) (false) (dFa (by omega)) fun Al W I => ?_
     refine zb I 21 (decide (way > 5)) (false) (dFa (by omega)) fun Al W I => ?_
     refine zb I 31 (f.g.rad == 16) (false) (bFn (by omega)) fun Al W I => ?_
     exact zret I fun Al W I => ⟨_, rfl, (I.geB 1), (I.box 1 223 _), I.below⟩
theorem l1a (n way fl : Int) (a : Vp) (r : Vr) (base u : Nat) (w : World) (U : Bt w u 223 #[.int .i64 n, .int .i64 way, .int .i64 (fmt n).g.rad, .int .i64 (fmt n).g.digs, .int .i64 (fmt n).g.lo, .int .i64 (fmt n).g.hi, .bool (fmt n).g.grad, .int .u8 (famB (fmt n)), .int .i64 fl]) (oa : Own w base .u32 143 a.p a.c (dig B32 a.v.d)) (hn : IsFm n) (V : VRep (fmt n) a.v r) (R : ResF (fmt n) r) (hT : TabW w) :
 Calls Tryz.prog 91 #[.pointer (some ⟨u, 0, none⟩), .agg #[.int .i64 (a.v.cls : Int), .bool a.v.neg, .slice a.p (dig B32 a.v.d).length a.c, .int .i64 a.v.pow]] w fun en w' => en = .returned (.tuple #[.string (a0d ((fmt n).strP ((fmt n).encP r.cls r.neg r.x))), .int .i64 fl, .int .i64 0]) ∧ Below w.heap.size w w' := by
 have HE := fun W (h1 : Own W base .u32 143 a.p a.c (dig B32 a.v.d)) h2 => hi0 (a1s n (a.v.cls : Int) (dinV a.v a.p a.c) W (n1r h1 V.len) h2)
 obtain ⟨e1, e2⟩ := q1l R V a.p a.c
 unfold w0z u0c at HE
 rw [if_pos hn, e1, e2] at HE
 simp only [if_true] at HE
 have HE2 : ∀ W, Own W base .u32 143 a.p a.c (dig B32 a.v.d) → TabW W → Hid (Calls Tryz.prog 154 #[.int .i64 n, .agg #[.int .i64 (a.v.cls : Int), .bool a.v.neg, .slice a.p (dig B32 a.v.d).length a.c, .int .i64 a.v.pow]] W fun en w' => en = .returned (.tuple #[.string (a0d ((fmt n).strP ((fmt n).encP r.cls r.neg r.x))), .int .i64 0]) ∧ Below W.heap.size W w') := HE
 clear HE e1 e2 V R
 generalize a0d ((fmt n).strP ((fmt n).encP r.cls r.neg r.x)) = s at *
 generalize fmt n = f at *
 have I := Inv.startR w [u] [⟨223, (uS f n way fl), true⟩] [ownF base .u32 143 a.p a.c (dig B32 a.v.d), tabF] ⟨U, True.intro⟩ ⟨oa, hT, True.intro⟩
 refine a0h [.p 0 0, .v (.agg #[.int .i64 (a.v.cls : Int), .bool a.v.neg, .slice a.p (dig B32 a.v.d).length a.c, .int .i64 a.v.pow])] I Tryz.func91 ?_
 refine zd [] I fun Al W I => ?_
 refine zk [0, 1, 2, 3, 4] I fun I => ?_
 refine zo 5 I fun I => ?_
 refine zq I (fun Al W I => (HE2 W I.fa.1 I.fa.2.1).out) fun Al W I => ?_
 refine zk [6, 7, 8, 9, 10] I fun I => ?_
 refine zd [] I fun Al W I => ?_
 refine zk [0, 1, 2, 3, 4, 5, 6, 7] I fun I => ?_
 exact zrb I
def strR (n : Int) (r : Vr) : ByteArray := a0d ((fmt n).strP ((fmt n).encP r.cls r.neg r.x))
structure VrF (f : Fm) (r : Vr) : Prop where
 ok : VrOk r
 inf : r.cls = 3 → f.fam = 1
def refD (n : Int) (s : ByteArray) : Vr := (fmt n).refN (a0s (fmt n) s)
theorem q1o {f : Fm} (G : d0b f) (neg : Bool) {e frac : Nat} (h : e < 2 ^ f.E) : (f.dec neg e frac).p = 0 ∨ (f.g.lo ≤ (f.dec neg e frac).p ∧ (f.dec neg e frac).p ≤ f.g.hi + 1) := by
 have h3 := G.hi1
 have h4 := G.hi2
 have h5 := G.hi3
 have h6 := G.fam
 have gg := (b0w G.g).le
 have e1 := G.e1
 have hE1 : (2 : Nat) ^ 7 ≤ 2 ^ f.E := Nat.pow_le_pow_right (by omega) e1
 unfold Fm.dec
 generalize 2 ^ f.E = T at *
 repeat' split
 all_goals first | exact .inl rfl | (right; simp only; omega)
theorem n1u {f : Fm} (neg : Bool) {e frac : Nat} (h : (f.dec neg e frac).c = 3) : f.fam = 1 := by
 have h : (f.dec neg e frac).cls = 3 := by
  unfold Dc.c at h
  split at h <;> omega
 unfold Fm.dec at h
 split at h
 · simp at h
 · split at h
   · rename_i k
     exact k.1
   · split at h
     · split at h <;> simp at h
     · split at h
       · simp at h
       · split at h
         · simp at h
         · split at h <;> simp at h
theorem l0w {n : Int} {s : ByteArray} (hn : IsFm n) : VrF (fmt n) (refD n s) := by
 have G := c0d hn
 have GG := b0w G.g
 obtain ⟨w1, w2, w3⟩ := l0m G.g
 have he : (fmt n).exp (a0s (fmt n) s) < 2 ^ (fmt n).E := Nat.mod_lt _ (Nat.pow_pos (by omega))
 have hx : (fmt n).frac (a0s (fmt n) s) < 2 ^ (fmt n).F := Nat.mod_lt _ (Nat.pow_pos (by omega))
 have hm := h1e (f := fmt n) ((fmt n).neg (a0s (fmt n) s)) (e := (fmt n).exp (a0s (fmt n) s)) hx
 have hp := q1o G ((fmt n).neg (a0s (fmt n) s)) (frac := (fmt n).frac (a0s (fmt n) s)) he
 have hi := fun h => n1u (f := fmt n) ((fmt n).neg (a0s (fmt n) s)) (e := (fmt n).exp (a0s (fmt n) s)) (frac := (fmt n).frac (a0s (fmt n) s)) h
 have hcls := d1e (fmt n) ((fmt n).neg (a0s (fmt n) s)) ((fmt n).exp (a0s (fmt n) s)) ((fmt n).frac (a0s (fmt n) s))
 have z2 := G.f2
 unfold refD Fm.refN Fm.decN
 generalize (fmt n).dec ((fmt n).neg (a0s (fmt n) s)) ((fmt n).exp (a0s (fmt n) s)) ((fmt n).frac (a0s (fmt n) s)) = D at *
 generalize (fmt n).neg (a0s (fmt n) s) = g at *
 generalize fmt n = f at *
 have hc : 1 ≤ D.c ∧ D.c ≤ 5 := by unfold Dc.c; split <;> omega
 have hml : (dig B32 D.m).length ≤ 3 := b0a hm (by omega)
 have wp := b0j f.g
 have hwp : -17010 ≤ (wid f.g : Int) * D.p ∧ (wid f.g : Int) * D.p ≤ 17010 := by
  rcases hp with h | ⟨h1, h2⟩
  · rw [h, Int.mul_zero]; omega
  · have a1 : (wid f.g : Int) * f.g.lo ≤ wid f.g * D.p := Int.mul_le_mul_of_nonneg_left h1 (by omega)
    have a2 : (wid f.g : Int) * D.p ≤ wid f.g * (f.g.hi + 1) := Int.mul_le_mul_of_nonneg_left h2 (by omega)
    rw [Int.mul_add, Int.mul_one] at a2
    omega
 refine ⟨⟨hc, fun h => ?_, fun h => ?_, ?_, ?_, ?_, ?_⟩, hi⟩
 · have h : ¬ D.c = 2 := h
   unfold Fm.vr
   simp only [if_neg h]
   rfl
 · have h : D.c = 2 := h
   have hm0 := k1n h
   unfold Fm.vr
   simp only [h, if_true]
   obtain ⟨b1, b2⟩ := s0k (g := g) (e := (wid f.g : Int) * D.p) hm0
   exact ⟨b2, by rw [b1]; rfl⟩
 · unfold Fm.vr
   simp only
   split
   · exact j0z _
   · exact .inr rfl
 · unfold Fm.vr
   simp only
   split
   · exact Nat.le_trans (x0v a0a _) (by show (dig B32 D.m).length ≤ _; omega)
   · show (dig B32 0).length ≤ _; rw [a0c]; decide
 · unfold Fm.vr
   simp only
   split
   · have := k1k (⟨g, D.m, wid f.g * D.p⟩ : Dv) (n := 3) hml (lo := -17100) (hi := 17100) (by simp only; omega) (by simp only; omega) (by omega) (by omega)
     omega
   · show (-18000 : Int) ≤ 0; decide
 · unfold Fm.vr
   simp only
   split
   · have := k1k (⟨g, D.m, wid f.g * D.p⟩ : Dv) (n := 3) hml (lo := -17100) (hi := 17100) (by simp only; omega) (by simp only; omega) (by omega) (by omega)
     omega
   · show (0 : Int) ≤ 18000; decide
theorem i0r {n : Int} {s : ByteArray} (h0 : b0g n s = 0) : VRep (fmt n) (decP n s) (refD n s) := by
 obtain ⟨hn, hs⟩ := b0l.1 h0
 have G := c0d hn
 have hd : decP n s = (fmt n).valN (a0s (fmt n) s) := by unfold decP; rw [if_pos h0]
 have he : (fmt n).exp (a0s (fmt n) s) < 2 ^ (fmt n).E := Nat.mod_lt _ (Nat.pow_pos (by omega))
 have hx : (fmt n).frac (a0s (fmt n) s) < 2 ^ (fmt n).F := Nat.mod_lt _ (Nat.pow_pos (by omega))
 have hb := r1d G ((fmt n).neg (a0s (fmt n) s)) he hx ((fmt n).neg (a0s (fmt n) s))
 have hk := y0e (fmt n) ((fmt n).neg (a0s (fmt n) s)) ((fmt n).decN (a0s (fmt n) s))
 have ho := h1j (fmt n) ((fmt n).neg (a0s (fmt n) s)) ((fmt n).decN (a0s (fmt n) s))
 rw [hd]
 exact ⟨rfl, rfl, fun _ => hk, fun h => ho h, hb.1, hb.2.1, hb.2.2⟩
/-! ### Results -/
theorem i0s {P : Program} {W : World} {l : List Nat} {b : Bool} (h : Byt l) (hb : l = [] ↔ b = false) {t : TypeId} {x y : Operand} : (do eqGuard .neq t x y (.string (a0d l)) (.string ⟨#[]⟩); binOp .neq t (.string (a0d l)) (.string ⟨#[]⟩) : Sem Value).run P W = .ok (.bool b) W :=
 i1x ((s0e h).trans hb)
structure NumV (f : Fm) (v : Vl) (r : Vr) : Prop where
 d0 : 0 < v.d
 x0 : r.x.m ≠ 0
 ng : r.x.neg = v.neg
 dec : ∀ k, decM (numP v.d (wid f.g * v.pow)) (denP 1 (wid f.g * v.pow)) k = numX r.x k
 len : (dig B32 v.d).length ≤ 3
 e : -30000 ≤ wid f.g * v.pow ∧ wid f.g * v.pow ≤ 30000
theorem x0d {n : Int} {s : ByteArray} (h0 : b0g n s = 0) (hc : (refD n s).cls = 2) : NumV (fmt n) (decP n s) (refD n s) := by
 obtain ⟨hn, hs⟩ := b0l.1 h0
 have G := c0d hn
 have V := i0r h0
 have F := (l0w (s := s) hn).ok
 have hd : decP n s = (fmt n).valN (a0s (fmt n) s) := by unfold decP; rw [if_pos h0]
 have he : (fmt n).exp (a0s (fmt n) s) < 2 ^ (fmt n).E := Nat.mod_lt _ (Nat.pow_pos (by omega))
 have hx : (fmt n).frac (a0s (fmt n) s) < 2 ^ (fmt n).F := Nat.mod_lt _ (Nat.pow_pos (by omega))
 have hm := h1e (f := fmt n) ((fmt n).neg (a0s (fmt n) s)) (e := (fmt n).exp (a0s (fmt n) s)) hx
 have hD := fun k => m1w (f := fmt n) (g := (fmt n).neg (a0s (fmt n) s)) (d := (fmt n).decN (a0s (fmt n) s)) hc k
 have hlen : (dig B32 (decP n s).d).length ≤ 3 := by
  rw [hd]
  unfold Fm.valN Fm.vl
  simp only
  split
  · exact Nat.le_trans (a0i a0a (Nat.div_le_self _ _)) (b0a hm (by have := G.f2; omega))
  · rw [a0c]; exact Nat.zero_le _
 have hd0 : 0 < (decP n s).d := by rw [hd]; exact (hD 1).2.1
 refine ⟨hd0, (hD 1).2.2, ?_, fun k => by rw [hd]; exact (hD k).1, hlen, ?_⟩
 · rw [(F.x2 hc).2, V.neg]
 · have hnum := V.num hc
   have hlo := F.lo
   have hhi := F.hi
   have hb : bare ⟨(decP n s).neg, (decP n s).d, wid (fmt n).g * (decP n s).pow⟩ = ⟨(decP n s).neg, (decP n s).d / 2 ^ tz (decP n s).d, wid (fmt n).g * (decP n s).pow + tz (decP n s).d⟩ := m0m (by omega)
   rw [← hnum, hb] at hlo hhi
   simp only at hlo hhi
   have ht : tz (decP n s).d ≤ 100 := by
    have h1 := (b0t (decP n s).d hd0).1
    have h2 : 2 ^ tz (decP n s).d ≤ (decP n s).d := by
     have h3 : 0 < (decP n s).d / 2 ^ tz (decP n s).d := Nat.pos_of_ne_zero fun h => by rw [h, Nat.mul_zero] at h1; omega
     calc 2 ^ tz (decP n s).d = 2 ^ tz (decP n s).d * 1 := (Nat.mul_one _).symm
      _ ≤ 2 ^ tz (decP n s).d * ((decP n s).d / 2 ^ tz (decP n s).d) := Nat.mul_le_mul_left _ h3
      _ = _ := h1
    have h4 := (a0x (decP n s).d (blen (decP n s).d)).1 (Nat.le_refl _)
    have h5 := c0f (decP n s).d
    have h6 : tz (decP n s).d < blen (decP n s).d := (Nat.pow_lt_pow_iff_right (by omega : 1 < 2)).1 (Nat.lt_of_le_of_lt h2 h4)
    omega
   omega
def j0d (r : Vr) (k : Nat) : List Nat := if r.cls = 2 then numT r.neg (numX r.x k).1 (numX r.x k).2 else e0t r.cls r.neg
def d0e (n k : Int) (s : ByteArray) : Int := if b0g n s = 0 then (if k < 1 ∨ 60 < k then 3 else 0) else b0g n s
def e0x (n k : Int) (s : ByteArray) : ByteArray := if d0e n k s = 0 then a0d (j0d (refD n s) k.toNat) else a0d []
theorem m0s {s : List Nat} (h : ∀ y ∈ s, 48 ≤ y ∧ y ≤ 57) : Byt s := fun y hy => by have := h y hy; omega
theorem f1p (n k : Int) (s : ByteArray) (w : World) (hT : TabW w) (hP : PowW w) : Calls Tryz.prog 25 #[.int .i64 n, .string s, .int .i64 k] w fun en w' => en = .returned (.tuple #[.string (e0x n k s), .int .i64 (d0e n k s)]) ∧ Below w.heap.size w w' := by
 have HD := fun W h => hi0 (l0s n s W h)
 have e1 : b0g n s ≠ 0 → d0e n k s = b0g n s ∧ e0x n k s = a0d [] := fun h => by
  have h1 : d0e n k s = b0g n s := by unfold d0e; rw [if_neg h]
  unfold e0x
  rw [h1, if_neg h]
  exact ⟨rfl, rfl⟩
 have e2 : b0g n s = 0 → (k < 1 ∨ 60 < k) → d0e n k s = 3 ∧ e0x n k s = a0d [] := fun h h' => by
  have h1 : d0e n k s = 3 := by unfold d0e; rw [if_pos h, if_pos h']
  unfold e0x
  rw [h1]
  exact ⟨rfl, rfl⟩
 have e3 : b0g n s = 0 → ¬ (k < 1 ∨ 60 < k) → d0e n k s = 0 ∧ e0x n k s = a0d (j0d (refD n s) k.toNat) := fun h h' => by
  have h1 : d0e n k s = 0 := by unfold d0e; rw [if_pos h, if_neg h']
  unfold e0x
  rw [h1]
  exact ⟨rfl, rfl⟩
 have hV := fun h => i0r (n := n) (s := s) h
 have hF : b0g n s = 0 → VrOk (refD n s) := fun h => (l0w (n := n) (s := s) (b0l.1 h).1).ok
 have hN := fun h h2 => x0d (n := n) (s := s) h h2
 unfold j0d at e3
 generalize refD n s = r at *
 generalize decP n s = v at *
 generalize d0e n k s = eo at *
 generalize e0x n k s = oo at *
 generalize b0g n s = er at *
 have HW := fun p c b W (h : Own W b .u32 143 p c (dig B32 v.d)) (h2 : 1 ≤ v.cls ∧ v.cls ≤ 5) h3 => hi0 (y0q v p c b W h h2 h3)
 have HV := fun p c b W (h : Own W b .u32 143 p c (dig B32 v.d)) h2 => hi0 (p0y n v p c b W h h2)
 have HDc := fun (N : NumV (fmt n) v r) (hk : ¬ (k < 1 ∨ 60 < k)) p q a b b1 b2 W (h1 : Own W b1 .u32 143 p a (dig B32 v.d)) (h2 : Own W b2 .u32 143 q b (dig B32 1)) => hi0 (by
   have h := m0f v.neg v.d (wid (fmt n).g * v.pow) k.toNat p q a b b1 b2 W h1 h2 N.d0 (by have := N.len; omega) N.e (by omega)
   rw [N.dec, show (k.toNat : Int) = k by omega] at h
   exact h : Calls Tryz.prog 67 #[.agg #[.bool v.neg, .slice p (dig B32 v.d).length a, .slice q (dig B32 1).length b, .int .i64 (wid (fmt n).g * v.pow)], .int .i64 k] W fun en w' => en = .returned (.tuple #[.string (a0d (numX r.x k.toNat).1), .int .i64 (numX r.x k.toNat).2]) ∧ Below W.heap.size W w')
 have HNu := fun W (F : VrOk r) (N : NumV (fmt n) v r) (hk : ¬ (k < 1 ∨ 60 < k)) (h : PowW W) => hi0 (by
   have A := h0f (k := k.toNat) N.x0 F.len (by omega)
   have B := s0b (k := k.toNat) N.x0 F.len ⟨F.lo, F.hi⟩ (by omega)
   exact k0w v.neg (numX r.x k.toNat).1 (numX r.x k.toNat).2 W (m0s A.2.1) (fun h => by have := A.1; rw [h, List.length_nil] at this; omega) (by omega) (by omega) h)
 generalize wid (fmt n).g * v.pow = E at *
 obtain ⟨wb, hwb⟩ : ∃ wb : Bool, (e0t v.cls v.neg = [] ↔ wb = false) := ⟨decide (v.cls ≠ 2), by rw [c0i]; simp⟩
 have I := Inv.start w [tabF, powF] ⟨hT, hP, True.intro⟩
 refine a0h [.v (.int .i64 n), .v (.string s), .v (.int .i64 k)] I Tryz.func25 ?_
 refine zqo I (fun Al W I => (HD W I.fa.1).out) fun Al W p16 c16 I => ?_
 rcases Bool.eq_false_or_eq_true (er != 0) with f20 | f20
 · refine zb I 20 (er != 0) (true) (f20) fun Al W I => ?_
   refine zret I (v := fun Al => .tuple #[Go.Value.string (ByteArray.mk #[]), .int .i64 er]) fun Al W I => ?_
   first | (obtain ⟨h1, h2⟩ := e1 (bne_iff_ne.1 f20); rw [h1, h2]; exact ⟨rfl, I.below⟩) | (rw [q1, q2, if_pos hc, ← V.neg]; exact ⟨rfl, I.below⟩)
 refine zb I 20 (er != 0) (false) (f20) fun Al W I => ?_
 rcases Bool.eq_false_or_eq_true (decide (k < 1)) with f23 | f23
 · refine zb I 23 (decide (k < 1)) (true) (f23) fun Al W I => ?_
   refine zret I (v := fun Al => .tuple #[Go.Value.string (ByteArray.mk #[]), .int .i64 3]) fun Al W I => ?_
   first | (obtain ⟨h1, h2⟩ := e2 (bne_eq_false_iff_eq.1 f20) (by exact .inl (oTr f23)); rw [h1, h2]; exact ⟨rfl, I.below⟩) | (rw [q1, q2, if_pos hc, ← V.neg]; exact ⟨rfl, I.below⟩)
 refine zb I 23 (decide (k < 1)) (false) (f23) fun Al W I => ?_
 rcases Bool.eq_false_or_eq_true (decide (k > 60)) with f26 | f26
 · refine zb I 26 (decide (k > 60)) (true) (f26) fun Al W I => ?_
   refine zret I (v := fun Al => .tuple #[Go.Value.string (ByteArray.mk #[]), .int .i64 3]) fun Al W I => ?_
   first | (obtain ⟨h1, h2⟩ := e2 (bne_eq_false_iff_eq.1 f20) (by exact .inr (oTr f26)); rw [h1, h2]; exact ⟨rfl, I.below⟩) | (rw [q1, q2, if_pos hc, ← V.neg]; exact ⟨rfl, I.below⟩)
 refine zb I 26 (decide (k > 60)) (false) (f26) fun Al W I => ?_
 have h0 : er = 0 := bne_eq_false_iff_eq.1 f20
 have hk : ¬ (k < 1 ∨ 60 < k) := fun h => h.elim (oFa f23) (oFa f26)
 obtain ⟨q1, q2⟩ := e3 h0 hk
 have V := hV h0
 have F := hF h0
 refine zq I (fun Al W I => (HW p16 c16 _ W I.fa.1 (by rw [V.cls]; exact F.c) I.fa.2.1).out) fun Al W I => ?_
 rcases Bool.eq_false_or_eq_true (wb) with f31 | f31
 · refine zbin I 31 (.bool true) (fun _ _ _ _ W => ((i0s (g0m _ _) hwb)).trans (congrArg (fun z => Result.ok (Value.bool z) W) (show (wb) = true from f31))) fun Al W I => ?_
   refine zret I (v := fun Al => .tuple #[.string (a0d (e0t v.cls v.neg)), .int .i64 0]) fun Al W I => ?_
   first | (rw [q1, q2, if_pos hc, ← V.neg]; exact ⟨rfl, I.below⟩) | (have hc : r.cls ≠ 2 := fun h => (by have := hwb.1 (c0i.2 (V.cls.trans h)); rw [this] at f31; cases f31); rw [q1, q2, if_neg hc, ← V.cls, ← V.neg]; exact ⟨rfl, I.below⟩)
 refine zbin I 31 (.bool false) (fun _ _ _ _ W => ((i0s (g0m _ _) hwb)).trans (congrArg (fun z => Result.ok (Value.bool z) W) (show (wb) = false from f31))) fun Al W I => ?_
 have hc : r.cls = 2 := by rw [← V.cls]; exact c0i.1 (hwb.2 f31)
 have N := hN h0 hc
 refine zqo I (fun Al W I => have hzW := I.bel.size; (HV p16 c16 _ W I.fa.1 (by have := V.lo; have := V.hi; omega)).out) fun Al W q36 d36 I => ?_
 refine zq I (fun Al W I => (HDc N hk p16 q36 c16 d36 _ _ W I.fa.2.1 I.fa.1).out) fun Al W I => ?_
 refine zq I (fun Al W I => (HNu W F N hk I.fa.2.2.2.1).out) fun Al W I => ?_
 refine zret I (v := fun Al => .tuple #[.string (a0d (numT v.neg (numX r.x k.toNat).1 (numX r.x k.toNat).2)), .int .i64 0]) fun Al W I => ?_
 first | (rw [q1, q2, if_pos hc, ← V.neg]; exact ⟨rfl, I.below⟩) | (have hc : r.cls ≠ 2 := fun h => (by have := hwb.1 (c0i.2 (V.cls.trans h)); rw [this] at f31; cases f31); rw [q1, q2, if_neg hc, ← V.cls, ← V.neg]; exact ⟨rfl, I.below⟩)
def fitE (n : Int) (a : Rin) (way : Int) : Int := if IsFm n then c0b a (fmt n).g way else 6
def fitR (n : Int) (a : Rin) (way : Int) : Vr × Nat := if a.xs.length = 0 then (⟨1, false, vz⟩, 0) else (fmt n).placedM (a0o a.g (val B32 a.xs) (val B32 a.ys) a.e (fmt n).g way) way
structure r1o (n : Int) (a : Rin) (num den : Nat) (way : Int) : Prop where
 fm : IsFm n
 wy : 1 ≤ way ∧ way ≤ 5
 r0 : c0b a (fmt n).g way = 0
 t0 : e0n a = 0
 xs : a.xs = dig B32 num
 ys : a.ys = dig B32 den
 d0 : 0 < den
 lx : (dig B32 num).length ≤ 1200
 ly : (dig B32 den).length ≤ 1200
 e : -20000 ≤ a.e ∧ a.e ≤ 20000
theorem q1p {n : Int} {a : Rin} {way : Int} (h1 : ∀ x ∈ a.xs, x < B32) (h2 : ∀ x ∈ a.ys, x < B32) (h : fitE n a way = 0) : r1o n a (val B32 a.xs) (val B32 a.ys) way := by
 unfold fitE at h
 split at h
 · rename_i hn
   have hr0 : e0n a = 0 := by
    unfold c0b at h
    by_cases h : e0n a = 0
    · exact h
    · rename_i h9; rw [if_pos h] at h9; exact absurd h9 h
   have hg0 : errG (fmt n).g = 0 := (c0d hn).g
   have hw : 1 ≤ way ∧ way ≤ 5 := by
    unfold c0b at h
    rw [hr0, hg0, if_neg (by simp), if_neg (by simp)] at h
    by_cases k : way < 1 ∨ 5 < way
    · rw [if_pos k] at h; omega
    · omega
   have hx0 : b0k a.xs = 0 ∧ b0k a.ys = 0 ∧ 0 < a.ys.length ∧ -20000 ≤ a.e ∧ a.e ≤ 20000 := by
    unfold e0n at hr0
    by_cases h1 : b0k a.xs = 0
    · rw [if_neg (by simpa using h1)] at hr0
      by_cases h2 : b0k a.ys = 0
      · rw [if_neg (by simpa using h2)] at hr0
        by_cases h3 : a.ys.length = 0 ∨ a.e < -20000 ∨ 20000 < a.e
        · rw [if_pos h3] at hr0; simp at hr0
        · exact ⟨h1, h2, by omega, by omega, by omega⟩
      · rw [if_pos h2] at hr0; exact absurd hr0 h2
    · rw [if_pos h1] at hr0; exact absurd hr0 h1
   obtain ⟨hx1, hx2, hx3, hx4⟩ := hx0
   obtain ⟨ex, lx⟩ := e0i h1 hx1
   obtain ⟨ey, ly⟩ := e0i h2 hx2
   refine ⟨hn, hw, h, hr0, ex, ey, ?_, by rw [← ex]; exact lx, by rw [← ey]; exact ly, hx4⟩
   rcases Nat.eq_zero_or_pos (val B32 a.ys) with h | h
   · rw [h, a0c] at ey; rw [ey] at hx3; simp at hx3
   · exact h
 · omega
theorem j1o (n : Int) (hn : IsFm n) : ResF (fmt n) ⟨1, false, vz⟩ := by
 have := x0b (c0d hn) false
 unfold Fm.zeroM at this
 exact this
theorem f1q (n way : Int) (u : Nat) (w : World) (U : Bt w u 223 #[.int .i64 n, .int .i64 way, .int .i64 (fmt n).g.rad, .int .i64 (fmt n).g.digs, .int .i64 (fmt n).g.lo, .int .i64 (fmt n).g.hi, .bool (fmt n).g.grad, .int .u8 (famB (fmt n)), .int .i64 0]) (hn : IsFm n) (hT : TabW w) :
 Calls Tryz.prog 91 #[.pointer (some ⟨u, 0, none⟩), .agg #[.int .i64 1, .bool false, .slice none 0 0, .int .i64 0]] w fun en w' => en = .returned (.tuple #[.string (strR n ⟨1, false, vz⟩), .int .i64 0, .int .i64 0]) ∧ Below w.heap.size w w' := by
 have := l1a n way 0 ⟨⟨1, false, 0, 0⟩, none, 0⟩ ⟨1, false, vz⟩ 0 u w U (by simp only [a0c]; exact Own.nil _ _ _ _) hn (g0n (by omega)) (j1o n hn) hT
 simp only [a0c, List.length_nil] at this
 exact this
theorem n1v (n : Int) (a : Rin) (way : Int) (w : World) (ha : InR w a) (hT : TabW w) (h0 : fitE n a way = 0) :
 Calls Tryz.prog 58 #[.int .i64 n, .agg #[.bool a.g, .slice a.p a.xs.length a.c, .slice a.q a.ys.length a.d, .int .i64 a.e], .int .i64 way] w fun en w' => en = .returned (.tuple #[.string (strR n (fitR n a way).1), .int .i64 (((fitR n a way).2 : Nat) : Int), .int .i64 0]) ∧ Below w.heap.size w w' := by
 have F := q1p ha.b1 ha.b2 h0
 have hn := F.fm
 have he : d0c n = 0 := by unfold d0c; rw [if_pos hn]
 have HG := fun W => hi0 (o0h n W)
 rw [he] at HG
 have HR := fun W h1 h2 => hi0 (t0y a (fmt n).g way W ⟨h1, ha.l1, ha.b1, h2, ha.l2, ha.b2⟩)
 rw [F.r0] at HR
 have HO := fun W => hi0 (n1t n way W hn F.wy)
 have HZ := fun W u h => hi0 (k1w (fmt n) n way 0 false u W h)
 rw [Bool.false_and] at HZ
 have HT0 := fun W u h1 h2 => hi0 (f1q n way u W h1 hn h2)
 by_cases hz : a.xs.length = 0
 · have hR : fitR n a way = (⟨1, false, vz⟩, 0) := by unfold fitR; rw [if_pos hz]
   rw [hR]
   simp only
   have r1 := ha.r1
   have r2 := ha.r2
   generalize strR n ⟨1, false, vz⟩ = s at *
   generalize j0s a (fmt n).g way = P at *
   generalize fmt n = f at *
   clear F ha hR
   have I := Inv.start w [rdF .u32 a.p a.xs, rdF .u32 a.q a.ys, tabF] ⟨r1, r2, hT, True.intro⟩
   refine a0h [.v (.int .i64 n), .v (.agg #[.bool a.g, .slice a.p a.xs.length a.c, .slice a.q a.ys.length a.d, .int .i64 a.e]), .v (.int .i64 way)] I Tryz.func58 ?_
   refine zq I (fun Al W I => (HG W).out) fun Al W I => ?_
   refine zg I (fun Al W I => (HR W I.fa.1 I.fa.2.1).out) fun Al V Iv _ hB _ kz => ?_
   rintro _ W ⟨p27, c27, rfl, -, hb⟩
   refine ⟨_, rfl, kz _ _ hb fun I => ?_⟩
   refine zg I (fun Al W I => (HO W).out) fun Al V Iv _ hB _ kz => ?_
   rintro _ W ⟨u36, rfl, hge, hB, hb⟩
   refine ⟨_, rfl, kz _ _ hb fun I => ?_⟩
   refine p1h Iv hb 3 u36 223 [(.int .i64 n), (.int .i64 way), (.int .i64 f.g.rad), (.int .i64 f.g.digs), (.int .i64 f.g.lo), (.int .i64 f.g.hi), (.bool f.g.grad), (.int .u8 (famB f)), (.int .i64 0)] hge hB fun Al hAl_36 I => ?_
   refine p1i I 37 3 u36 hAl_36 fun Al W I => ?_
   refine zb I 42 ((a.xs.length : Int) == 0) (true) (beq_iff_eq.2 (by omega)) fun Al W I => ?_
   refine zq I (fun Al W I => (HZ W _ (I.box 3 223 _)).out) fun Al W I => ?_
   refine zq I (fun Al W I => (HT0 W _ (I.box 3 223 _) I.fa.2.2.1).out) fun Al W I => ?_
   exact zrb I
 · have hxs : a.xs = dig B32 (val B32 a.xs) := F.xs
   have hn0 : 0 < val B32 a.xs := by
    rcases Nat.eq_zero_or_pos (val B32 a.xs) with h | h
    · rw [h, a0c] at hxs; rw [hxs] at hz; simp at hz
    · exact h
   have HF := fun W u h1 h2 h3 => hi0 (r1n (fmt n) n way a.g a.p a.q a.c a.d (val B32 a.xs) (val B32 a.ys) a.e u W h1 h2 h3 (by have := F.lx; omega) (by have := F.ly; omega) hn0 F.d0 (by have := F.e; omega) (c0d hn) F.wy)
   have hR : fitR n a way = (fmt n).placedM (a0o a.g (val B32 a.xs) (val B32 a.ys) a.e (fmt n).g way) way := by unfold fitR; rw [if_neg hz]
   have PA := l0v (c0d hn) (neg := a.g) (num := val B32 a.xs) (den := val B32 a.ys) (e := a.e) (way := way) F.d0
   rw [← F.xs, ← F.ys, ← hR] at HF
   rw [← hR] at PA
   have HT := fun W v p c base fl u h1 h2 h3 h4 => hi0 (l1a n way fl ⟨v, p, c⟩ (fitR n a way).1 base u W h1 h2 hn h3 PA.1 h4)
   have hV := PA.2
   have hs : strR n (fitR n a way).1 = a0d ((fmt n).strP ((fmt n).encP (fitR n a way).1.cls (fitR n a way).1.neg (fitR n a way).1.x)) := rfl
   rw [← hs] at HT
   have r1 := ha.r1
   have r2 := ha.r2
   clear hs PA hR F ha
   generalize strR n (fitR n a way).1 = s at *
   generalize (fitR n a way).2 = fl at *
   generalize (fitR n a way).1 = r at *
   generalize (fmt n).placedV (a0o a.g (val B32 a.xs) (val B32 a.ys) a.e (fmt n).g way) way = v at *
   generalize j0s a (fmt n).g way = P at *
   generalize fmt n = f at *
   have I := Inv.start w [rdF .u32 a.p a.xs, rdF .u32 a.q a.ys, tabF] ⟨r1, r2, hT, True.intro⟩
   refine a0h [.v (.int .i64 n), .v (.agg #[.bool a.g, .slice a.p a.xs.length a.c, .slice a.q a.ys.length a.d, .int .i64 a.e]), .v (.int .i64 way)] I Tryz.func58 ?_
   refine zq I (fun Al W I => (HG W).out) fun Al W I => ?_
   refine zg I (fun Al W I => (HR W I.fa.1 I.fa.2.1).out) fun Al V Iv _ hB _ kz => ?_
   rintro _ W ⟨p27, c27, rfl, -, hb⟩
   refine ⟨_, rfl, kz _ _ hb fun I => ?_⟩
   refine zg I (fun Al W I => (HO W).out) fun Al V Iv _ hB _ kz => ?_
   rintro _ W ⟨u36, rfl, hge, hB, hb⟩
   refine ⟨_, rfl, kz _ _ hb fun I => ?_⟩
   refine p1h Iv hb 3 u36 223 [(.int .i64 n), (.int .i64 way), (.int .i64 f.g.rad), (.int .i64 f.g.digs), (.int .i64 f.g.lo), (.int .i64 f.g.hi), (.bool f.g.grad), (.int .u8 (famB f)), (.int .i64 0)] hge hB fun Al hAl_36 I => ?_
   refine p1i I 37 3 u36 hAl_36 fun Al W I => ?_
   refine zb I 42 ((a.xs.length : Int) == 0) (false) (bFn (by omega)) fun Al W I => ?_
   refine zge I 3 223 (fun Al W I => (HF W _ (I.box 3 223 _) I.fa.1 I.fa.2.1).out) fun Al V Iv _ _ kz => ?_
   rintro _ W ⟨p53, c53, rfl, o53, hO, hB⟩
   refine ⟨_, rfl, kz _ (uS f n way (fl : Int)) _ hO hB fun I => ?_⟩
   have I := I.own o53
   refine zq I (fun Al W I => (HT W v p53 c53 _ (fl : Int) _ (I.box 3 223 _) I.fa.1 hV I.fa.2.2.2.1).out) fun Al W I => ?_
   exact zrb I
theorem j1p (n : Int) (a : Rin) (way : Int) (w : World) (ha : InR w a) (hT : TabW w) (h0 : fitE n a way ≠ 0) :
 Calls Tryz.prog 58 #[.int .i64 n, .agg #[.bool a.g, .slice a.p a.xs.length a.c, .slice a.q a.ys.length a.d, .int .i64 a.e], .int .i64 way] w fun en w' => en = .returned (.tuple #[.string (a0d []), .int .i64 0, .int .i64 (fitE n a way)]) ∧ Below w.heap.size w w' := by
 have HG := fun W => hi0 (o0h n W)
 have r1 := ha.r1
 have r2 := ha.r2
 by_cases hn : IsFm n
 · have he : d0c n = 0 := by unfold d0c; rw [if_pos hn]
   rw [he] at HG
   have hE : fitE n a way = c0b a (fmt n).g way := by unfold fitE; rw [if_pos hn]
   rw [hE] at h0 ⊢
   have HR := fun W h1 h2 => hi0 (t0y a (fmt n).g way W ⟨h1, ha.l1, ha.b1, h2, ha.l2, ha.b2⟩)
   generalize c0b a (fmt n).g way = er at *
   generalize j0s a (fmt n).g way = P at *
   generalize fmt n = f at *
   have I := Inv.start w [rdF .u32 a.p a.xs, rdF .u32 a.q a.ys, tabF] ⟨r1, r2, hT, True.intro⟩
   refine a0h [.v (.int .i64 n), .v (.agg #[.bool a.g, .slice a.p a.xs.length a.c, .slice a.q a.ys.length a.d, .int .i64 a.e]), .v (.int .i64 way)] I Tryz.func58 ?_
   refine zq I (fun Al W I => (HG W).out) fun Al W I => ?_
   refine zg I (fun Al W I => (HR W I.fa.1 I.fa.2.1).out) fun Al V Iv _ hB _ kz => ?_
   rintro _ W ⟨p27, c27, rfl, -, hb⟩
   refine ⟨_, rfl, kz _ _ hb fun I => ?_⟩
   refine zb I 31 (er != 0) (true) (bne_iff_ne.2 h0) fun Al W I => ?_
   exact zrb I
 · have he : d0c n = 6 := by unfold d0c; rw [if_neg hn]
   rw [he] at HG
   have hE : fitE n a way = 6 := by unfold fitE; rw [if_neg hn]
   rw [hE]
   generalize fmt n = f at *
   have I := Inv.start w [] True.intro
   refine a0h [.v (.int .i64 n), .v (.agg #[.bool a.g, .slice a.p a.xs.length a.c, .slice a.q a.ys.length a.d, .int .i64 a.e]), .v (.int .i64 way)] I Tryz.func58 ?_
   refine zq I (fun Al W I => (HG W).out) fun Al W I => ?_
   exact zrb I
theorem n1w {f : Fm} (G : d0b f) {r : Vr} (R : ResF f r) : CanF f r.cls r.neg r.x :=
 ⟨R.c, R.c1, fun h => ⟨d1g G (R.c2 h).1 (R.c2 h).2.2.1, (R.c2 h).2.1, (R.c2 h).2.2.1, (R.c2 h).2.2.2⟩, R.c3, R.c4, R.c5⟩
theorem y0t {n : Int} (hn : IsFm n) {r : Vr} (R : ResF (fmt n) r) : b0g n (strR n r) = 0 ∧ refD n (strR n r) = r := by
 have G := c0d hn
 have C := n1w G R
 have hlt := m1m G (cls := r.cls) (g := r.neg) (d := r.x) (fun h => (C.c2 h).1)
 have hs : (strR n r).size = (fmt n).size := by unfold strR; rw [a0m]; exact m1l _ _ _ _
 refine ⟨b0l.2 ⟨hn, hs⟩, ?_⟩
 have hv := m1o G C
 obtain ⟨q1, q2, q3⟩ := d1f (f := fmt n) (neg := ((fmt n).encP r.cls r.neg r.x).neg) hlt.1 hlt.2
 unfold refD Fm.refN Fm.decN strR Fm.strP
 rw [x0a G hlt.1 hlt.2, q1, q2, q3, hv]
 by_cases h2 : r.cls = 2
 · rw [if_pos h2]
 · rw [if_neg h2, show (⟨false, 0, 0⟩ : Dv) = r.x from (R.x0 h2).symm]
theorem f1r {l : List Nat} (h : errT l.length (numl l) = 0) : a1h (ratL l) := by
 unfold errT at h
 by_cases h1 : 400 < l.length
 · rw [if_pos h1] at h; cases h
 · rw [if_neg h1] at h
   cases hn : numl l with
   | none => rw [hn] at h; cases h
   | some q =>
    rw [hn] at h
    by_cases h2 : q.pow < -6000 ∨ 6000 < q.pow
    · have h : (if q.pow < -6000 ∨ 6000 < q.pow then (3 : Int) else 0) = 0 := h
      rw [if_pos h2] at h; cases h
    · rw [(f1h h1 hn h2).2]
      have hd := u0m hn
      exact e1q hd.1 (by omega) (by omega)
def fitQ (n : Int) (R : Bool × Nat × Nat × Int) (way : Int) : Vr × Nat := if R.2.1 = 0 then (⟨1, false, vz⟩, 0) else (fmt n).placedM (a0o R.1 R.2.1 R.2.2.1 R.2.2.2 (fmt n).g way) way
def errQ (n way : Int) : Int := if IsFm n then (if 1 ≤ way ∧ way ≤ 5 then 0 else 6) else 6
def outQ (n way : Int) (R : Bool × Nat × Nat × Int) : ByteArray := if errQ n way = 0 then strR n (fitQ n R way).1 else a0d []
def flQ (n way : Int) (R : Bool × Nat × Nat × Int) : Nat := if errQ n way = 0 then (fitQ n R way).2 else 0
theorem y0u (n way : Int) (R : Bool × Nat × Nat × Int) (p q : Option Addr) (c d b1 b2 : Nat) (w : World) (hp : Own w b1 .u32 143 p c (dig B32 R.2.1)) (hq : Own w b2 .u32 143 q d (dig B32 R.2.2.1)) (hR : a1h R) (hT : TabW w) :
 Calls Tryz.prog 58 #[.int .i64 n, .agg #[.bool R.1, .slice p (dig B32 R.2.1).length c, .slice q (dig B32 R.2.2.1).length d, .int .i64 R.2.2.2], .int .i64 way] w fun en w' => en = .returned (.tuple #[.string (outQ n way R), .int .i64 ((flQ n way R : Nat) : Int), .int .i64 (errQ n way)]) ∧ Below w.heap.size w w' := by
 obtain ⟨hd0, hln, hld, he⟩ := hR
 have ha : InR w ⟨R.1, p, c, dig B32 R.2.1, q, d, dig B32 R.2.2.1, R.2.2.2⟩ := ⟨hp.rd, by show (dig B32 R.2.1).length ≤ _; omega, b0d a0a _, hq.rd, by show (dig B32 R.2.2.1).length ≤ _; omega, b0d a0a _⟩
 have hzl := a0f a0a R.2.1
 have hyl := a0f a0a R.2.2.1
 have eF : fitR n ⟨R.1, p, c, dig B32 R.2.1, q, d, dig B32 R.2.2.1, R.2.2.2⟩ way = fitQ n R way := by
  unfold fitR fitQ
  simp only [b0c a0a]
  by_cases h : R.2.1 = 0
  · rw [if_pos h, if_pos (hzl.2 h)]
  · rw [if_neg h, if_neg (fun k => h (hzl.1 k))]
 have eE : fitE n ⟨R.1, p, c, dig B32 R.2.1, q, d, dig B32 R.2.2.1, R.2.2.2⟩ way = errQ n way := by
  unfold fitE errQ
  by_cases hn : IsFm n
  · rw [if_pos hn, if_pos hn]
    have h1 : e0n ⟨R.1, p, c, dig B32 R.2.1, q, d, dig B32 R.2.2.1, R.2.2.2⟩ = 0 := by
     unfold e0n
     simp only [Go.Slip.o0x, if_neg (show ¬ 1200 < (dig B32 R.2.1).length by omega), if_neg (show ¬ 1200 < (dig B32 R.2.2.1).length by omega)]
     rw [if_neg (by simp), if_neg (by simp), if_neg (by omega)]
    unfold c0b
    rw [h1, (c0d hn).g, if_neg (by simp), if_neg (by simp)]
    by_cases hw : 1 ≤ way ∧ way ≤ 5
    · rw [if_neg (by omega), if_pos hw]
    · rw [if_pos (by omega), if_neg hw]
  · rw [if_neg hn, if_neg hn]
 by_cases h0 : errQ n way = 0
 · have := n1v n _ way w ha hT (by rw [eE]; exact h0)
   rw [eF] at this
   unfold outQ flQ
   rw [if_pos h0, if_pos h0, h0]
   exact this
 · have := j1p n _ way w ha hT (by rw [eE]; exact h0)
   rw [eE] at this
   unfold outQ flQ
   rw [if_neg h0, if_neg h0]
   exact this
def c0u (n way : Int) (l : List Nat) : Int := if IsFm n then (if errT l.length (numl l) = 0 then errQ n way else errT l.length (numl l)) else 6
def outP (n way : Int) (l : List Nat) : ByteArray := if c0u n way l = 0 then strR n (fitQ n (ratL l) way).1 else a0d []
def flP' (n way : Int) (l : List Nat) : Nat := if c0u n way l = 0 then (fitQ n (ratL l) way).2 else 0
theorem a1v (n : Int) (t : ByteArray) (way : Int) (w : World) (hT : TabW w) : Calls Tryz.prog 15 #[.int .i64 n, .string t, .int .i64 way] w fun en w' => en = .returned (.tuple #[.string (outP n way (a0b t)), .int .i64 ((flP' n way (a0b t) : Nat) : Int), .int .i64 (c0u n way (a0b t))]) ∧ Below w.heap.size w w' := by
 have HS := fun W => hi0 (i1k n W)
 have HR := fun W h => hi0 (u0p t W h)
 have hok := @f1r (a0b t)
 have HF := fun p q c d b1 b2 W h1 h2 h3 h4 => hi0 (y0u n way (ratL (a0b t)) p q c d b1 b2 W h1 h2 h3 h4)
 have e1 : d0c n ≠ 0 → c0u n way (a0b t) = d0c n ∧ outP n way (a0b t) = a0d [] ∧ flP' n way (a0b t) = 0 := fun h => by
  have hn : ¬ IsFm n := fun k => h (by unfold d0c; rw [if_pos k])
  have h1 : c0u n way (a0b t) = 6 := by unfold c0u; rw [if_neg hn]
  have h2 : d0c n = 6 := by unfold d0c; rw [if_neg hn]
  unfold outP flP'
  rw [h1, h2]
  exact ⟨rfl, rfl, rfl⟩
 have e2 : d0c n = 0 → errT (a0b t).length (numl (a0b t)) ≠ 0 → c0u n way (a0b t) = errT (a0b t).length (numl (a0b t)) ∧ outP n way (a0b t) = a0d [] ∧ flP' n way (a0b t) = 0 := fun h h' => by
  have hn : IsFm n := by unfold d0c at h; split at h; assumption; omega
  have h1 : c0u n way (a0b t) = errT (a0b t).length (numl (a0b t)) := by unfold c0u; rw [if_pos hn, if_neg h']
  unfold outP flP'
  rw [h1, if_neg h', if_neg h']
  exact ⟨rfl, rfl, rfl⟩
 have e3 : d0c n = 0 → errT (a0b t).length (numl (a0b t)) = 0 → c0u n way (a0b t) = errQ n way ∧ outP n way (a0b t) = outQ n way (ratL (a0b t)) ∧ flP' n way (a0b t) = flQ n way (ratL (a0b t)) := fun h h' => by
  have hn : IsFm n := by unfold d0c at h; split at h; assumption; omega
  have h1 : c0u n way (a0b t) = errQ n way := by unfold c0u; rw [if_pos hn, if_pos h']
  unfold outP flP' outQ flQ
  rw [h1]
  exact ⟨rfl, rfl, rfl⟩
 generalize c0u n way (a0b t) = ep at *
 generalize outP n way (a0b t) = op at *
 generalize flP' n way (a0b t) = fp at *
 generalize errT (a0b t).length (numl (a0b t)) = er at *
 generalize outQ n way (ratL (a0b t)) = oq at *
 generalize flQ n way (ratL (a0b t)) = fq at *
 generalize errQ n way = eq at *
 generalize ratL (a0b t) = R at *
 generalize (fmt n).size = sz at *
 generalize d0c n = ef at *
 have I := Inv.start w [tabF] ⟨hT, True.intro⟩
 refine a0h [.v (.int .i64 n), .v (.string t), .v (.int .i64 way)] I Tryz.func15 ?_
 refine zq I (fun Al W I => (HS W).out) fun Al W I => ?_
 rcases Bool.eq_false_or_eq_true (ef != 0) with f19 | f19
 · refine zb I 19 (ef != 0) (true) (f19) fun Al W I => ?_
   refine zret I (v := fun Al => .tuple #[Go.Value.string (ByteArray.mk #[]), .int .i64 0, .int .i64 ef]) fun Al W I => ?_
   (obtain ⟨h1, h2, h3⟩ := e1 (by simpa using f19); rw [h1, h2, h3]; exact ⟨rfl, I.below⟩)
 refine zb I 19 (ef != 0) (false) (f19) fun Al W I => ?_
 refine zg I (fun Al W I => (HR W I.fa.1).out) fun Al V Iv _ hB _ kz => ?_
 rintro _ W ⟨p23, c23, q23, d23, rfl, o23, r23, hb⟩
 refine ⟨_, rfl, kz _ _ hb fun I => ?_⟩
 have I := I.own o23
 have I := I.own r23
 rcases Bool.eq_false_or_eq_true (er != 0) with f27 | f27
 · refine zb I 27 (er != 0) (true) (f27) fun Al W I => ?_
   refine zret I (v := fun Al => .tuple #[Go.Value.string (ByteArray.mk #[]), .int .i64 0, .int .i64 er]) fun Al W I => ?_
   first | (obtain ⟨h1, h2, h3⟩ := e1 (by simpa using f19); rw [h1, h2, h3]; exact ⟨rfl, I.below⟩) | (obtain ⟨h1, h2, h3⟩ := e2 (by simpa using f19) (by simpa using f27); rw [h1, h2, h3]; exact ⟨rfl, I.below⟩) | (obtain ⟨h1, h2, h3⟩ := e3 (by simpa using f19) (by simpa using f27); rw [h1, h2, h3]; exact ⟨rfl, I.below⟩)
 refine zb I 27 (er != 0) (false) (f27) fun Al W I => ?_
 refine zq I (fun Al W I => (HF p23 q23 c23 d23 _ _ W I.fa.2.1 I.fa.1 (hok (by simpa using f27)) I.fa.2.2.1).out) fun Al W I => ?_
 refine zret I (v := fun Al => .tuple #[.string oq, .int .i64 (fq : Int), .int .i64 eq]) fun Al W I => ?_
 first | (obtain ⟨h1, h2, h3⟩ := e1 (by simpa using f19); rw [h1, h2, h3]; exact ⟨rfl, I.below⟩) | (obtain ⟨h1, h2, h3⟩ := e2 (by simpa using f19) (by simpa using f27); rw [h1, h2, h3]; exact ⟨rfl, I.below⟩) | (obtain ⟨h1, h2, h3⟩ := e3 (by simpa using f19) (by simpa using f27); rw [h1, h2, h3]; exact ⟨rfl, I.below⟩)
theorem j1q {g : Bool} {s : List Nat} {p : Int} (h : Byt s) : Byt (numT g s p) := by
 unfold numT
 refine Byt.append ?_ (Byt.append (h.take 1) (Byt.append ?_ fun y hy => ?_))
 · intro y hy; cases g <;> simp at hy; omega
 · intro y hy
   split at hy
   · rcases List.mem_cons.1 hy with h1 | h1
     · omega
     · exact h.drop 1 y h1
   · cases hy
 · rcases List.mem_cons.1 hy with h1 | h1
   · omega
   · exact f1j p y h1
theorem j1r {g : Bool} {s : List Nat} {p : Int} (hp : -100000 < p ∧ p < 100000) (h0 : 1 ≤ s.length) : (numT g s p).length ≤ s.length + 10 := by
 have hil : (d0w p).length ≤ 6 := by
  have h : (a0r p.natAbs).length ≤ 5 := (b0e _ 5 (by omega)).2 (by omega)
  unfold d0w
  split
  · rw [List.length_cons, show (-p).toNat = p.natAbs by omega]; omega
  · rw [show p.toNat = p.natAbs by omega]; omega
 unfold numT
 have h1 : (if g = true then [45] else [] : List Nat).length ≤ 1 := by cases g <;> simp
 have h2 : (if 1 < s.length then 46 :: s.drop 1 else [] : List Nat).length ≤ s.length := by split <;> simp; omega
 rw [List.length_append, List.length_append, List.length_append, List.length_cons, List.length_take]
 omega
theorem u0u {n : Int} {r : Vr} {k : Nat} (hn : IsFm n) (h0 : r.x.m ≠ 0) (F : VrOk r) (hin : a0y r.x (fmt n).g = true) (hk : 1 ≤ k ∧ k ≤ 60) :
 errT (a0b (a0d (numT r.x.neg (numX r.x k).1 (numX r.x k).2))).length (numl (a0b (a0d (numT r.x.neg (numX r.x k).1 (numX r.x k).2)))) = 0 ∧ ratL (a0b (a0d (numT r.x.neg (numX r.x k).1 (numX r.x k).2))) = ratX r.x k := by
 have A := h0f (k := k) h0 F.len hk.1
 have B := m1x (k := k) (c0d hn).g h0 F.len hin hk.1
 rw [b0f (j1q (m0s A.2.1))]
 have hl := j1r (g := r.x.neg) (s := (numX r.x k).1) (p := (numX r.x k).2) (by omega) (by omega)
 have hN := d1j (neg := r.x.neg) A.1 hk.1 A.2.1 (show -100000 < (numX r.x k).2 ∧ (numX r.x k).2 < 100000 by omega)
 unfold ratX
 generalize numX r.x k = q at *
 generalize numT r.x.neg q.1 q.2 = L at *
 exact f1h (by omega) hN (by simp only; omega)
theorem f1s {n : Int} {r : Vr} {k : Nat} (hn : IsFm n) (h0 : r.x.m ≠ 0) (F : VrOk r) (hin : a0y r.x (fmt n).g = true) (hk : 1 ≤ k ∧ k ≤ 60) : a1h (ratX r.x k) ∧ 0 < (ratX r.x k).2.1 ∧ (ratX r.x k).1 = r.x.neg := by
 have h := u0u hn h0 F hin hk
 have A := h0f (k := k) h0 F.len hk.1
 have hq : a1h (ratX r.x k) := h.2 ▸ f1r h.1
 clear h
 unfold ratX at *
 obtain ⟨g, num, den, e, hr⟩ : ∃ g num den e, f0l ⟨r.x.neg, (numX r.x k).1, (numX r.x k).2 - ((k - 1 : Nat) : Int)⟩ = (g, num, den, e) := ⟨_, _, _, _, rfl⟩
 obtain ⟨a1, a2, _, _⟩ := t0g (by simp only; omega) hr
 rw [hr] at hq ⊢
 exact ⟨hq, a2, a1⟩
theorem f1t {n : Int} {r : Vr} {k : Nat} (hn : IsFm n) (h0 : r.x.m ≠ 0) (F : VrOk r) (hin : a0y r.x (fmt n).g = true) (hk : 1 ≤ k ∧ k ≤ 60) : ResF (fmt n) (g0g (fmt n) r.x k) ∧ (fitQ n (ratX r.x k) 1).1 = g0g (fmt n) r.x k := by
 have R := f1s hn h0 F hin hk
 have hf : (fitQ n (ratX r.x k) 1).1 = g0g (fmt n) r.x k := by
  unfold fitQ
  rw [if_neg (by have := R.2.1; omega)]
  rfl
 exact ⟨(l0v (c0d hn) R.1.d0).1, hf⟩
theorem y0v {n : Int} {s : ByteArray} (h0 : b0g n s = 0) : decP n s = (fmt n).toV (refD n s) := by
 obtain ⟨hn, hs⟩ := b0l.1 h0
 have he : (fmt n).exp (a0s (fmt n) s) < 2 ^ (fmt n).E := Nat.mod_lt _ (Nat.pow_pos (by omega))
 have hp := m1k (c0d hn) ((fmt n).neg (a0s (fmt n) s)) (frac := (fmt n).frac (a0s (fmt n) s)) he
 unfold decP
 rw [if_pos h0]
 exact (h1f _ _ ((fmt n).decN (a0s (fmt n) s)) (by unfold Fm.decN; omega) (by unfold Fm.decN; omega)).symm
theorem j1s {n : Int} {s t : ByteArray} (h1 : b0g n s = 0) (h2 : b0g n t = 0) (hc : (refD n s).cls = 2) (hc2 : (refD n t).cls = 2 → (refD n t).x.neg = (refD n t).neg) :
 decide ((decP n s).cls = (decP n t).cls ∧ (decP n s).neg = (decP n t).neg ∧ (decP n s).pow = (decP n t).pow ∧ (decP n s).d = (decP n t).d) =
  decide ((refD n t).cls = 2 ∧ (refD n t).x.neg = (refD n s).x.neg ∧ (refD n t).x.m = (refD n s).x.m ∧ (refD n t).x.e = (refD n s).x.e) := by
 have V := i0r h1
 have U := i0r h2
 have F := (l0w (s := s) (b0l.1 h1).1).ok
 rw [decide_eq_decide]
 constructor
 · rintro ⟨q1, q2, q3, q4⟩
   have k2 : (refD n t).cls = 2 := by rw [← U.cls, ← q1, V.cls]; exact hc
   have := U.num k2
   rw [← q2, ← q3, ← q4, V.num hc] at this
   exact ⟨k2, by rw [this], by rw [this], by rw [this]⟩
 · rintro ⟨q1, q2, q3, q4⟩
   have hx : (refD n t).x = (refD n s).x := by
    cases hq : (refD n t).x; cases hq' : (refD n s).x
    rw [hq, hq'] at q2 q3 q4
    simp only at q2 q3 q4
    rw [q2, q3, q4]
   have hr : refD n t = refD n s := by
    have hng : (refD n t).neg = (refD n s).neg := by rw [← hc2 q1, ← (F.x2 hc).2, hx]
    cases hq : refD n t; cases hq' : refD n s
    rw [hq, hq'] at hx hng
    rw [hq] at q1
    rw [hq'] at hc
    simp only at hx hng q1 hc
    rw [hx, hng, q1, hc]
   rw [y0v h1, y0v h2, hr]
   exact ⟨rfl, rfl, rfl, rfl⟩
theorem bad1 {x o u g : Bool} (h : (!x) = true) : true = !(x && (!o && (!u || g))) := by revert h; cases x <;> simp
theorem bad2 {x o u g : Bool} (h : o = true) : true = !(x && (!o && (!u || g))) := by subst h; cases x <;> simp
theorem bad3 {x o u g : Bool} (h : (!x) = false) (h2 : o = false) (h3 : u = false) : false = !(x && (!o && (!u || g))) := by subst h2 h3; revert h; cases x <;> simp
theorem bad4 {x o u g : Bool} (h : (!x) = false) (h2 : o = false) (h3 : u = true) : (!g) = !(x && (!o && (!u || g))) := by subst h2 h3; revert h; cases x <;> simp
structure u0v (n : Int) (v : Vl) (r : Vr) (k : Nat) : Prop where
 er : errT (a0b (a0d (numT v.neg (numX r.x k).1 (numX r.x k).2))).length (numl (a0b (a0d (numT v.neg (numX r.x k).1 (numX r.x k).2)))) = 0
 rt : ratL (a0b (a0d (numT v.neg (numX r.x k).1 (numX r.x k).2))) = ratX r.x k
 ok : a1h (ratX r.x k)
 out : outQ n 1 (ratX r.x k) = strR n (g0g (fmt n) r.x k)
 eq : errQ n 1 = 0
 pat : b0g n (strR n (g0g (fmt n) r.x k)) = 0
 ref : refD n (strR n (g0g (fmt n) r.x k)) = g0g (fmt n) r.x k
 same : decide (v.cls = (decP n (strR n (g0g (fmt n) r.x k))).cls ∧ v.neg = (decP n (strR n (g0g (fmt n) r.x k))).neg ∧ v.pow = (decP n (strR n (g0g (fmt n) r.x k))).pow ∧ v.d = (decP n (strR n (g0g (fmt n) r.x k))).d) = okX (fmt n) r.x k
 len : (dig B32 (decP n (strR n (g0g (fmt n) r.x k))).d).length ≤ 1000
theorem q1q {n : Int} {s : ByteArray} {k : Nat} (h0 : b0g n s = 0) (hc : (refD n s).cls = 2) (hin : a0y (refD n s).x (fmt n).g = true) (hk : 1 ≤ k ∧ k ≤ 60) : u0v n (decP n s) (refD n s) k := by
 have hn := (b0l.1 h0).1
 have F := (l0w (s := s) hn).ok
 have N := x0d h0 hc
 have A := u0u hn N.x0 F hin hk
 have B := f1s hn N.x0 F hin hk
 have C := f1t hn N.x0 F hin hk
 have D := y0t hn C.1
 have eQ : errQ n 1 = 0 := by unfold errQ; rw [if_pos hn, if_pos (by omega)]
 rw [N.ng] at A
 have hs := j1s h0 D.1 hc (fun h => by rw [D.2] at h ⊢; exact (C.1.c2 h).2.2.2)
 rw [D.2] at hs
 exact ⟨A.1, A.2, B.1, by unfold outQ; rw [if_pos eQ, C.2], eQ, D.1, D.2, hs, (i0r D.1).len⟩
def y0w (f : Fm) (r : Vr) : List Nat := if r.cls = 2 then numT r.neg (numX r.x (j0b f r.x)).1 (numX r.x (j0b f r.x)).2 else e0t r.cls r.neg
def c0o (n : Int) (s : ByteArray) : Int := if b0g n s = 0 then (if (refD n s).cls = 2 ∧ a0y (refD n s).x (fmt n).g = false then 4 else 0) else b0g n s
def e0g (n : Int) (s : ByteArray) : ByteArray := if c0o n s = 0 then a0d (y0w (fmt n) (refD n s)) else a0d []
theorem u0w (n : Int) (s : ByteArray) (w : World) (hT : TabW w) (hP : PowW w) : Calls Tryz.prog 21 #[.int .i64 n, .string s] w fun en w' => en = .returned (.tuple #[.string (e0g n s), .int .i64 (c0o n s)]) ∧ Below w.heap.size w w' := by
 have HD := fun W h => hi0 (l0s n s W h)
 have e1 : b0g n s ≠ 0 → c0o n s = b0g n s ∧ e0g n s = a0d [] := fun h => by
  have h1 : c0o n s = b0g n s := by unfold c0o; rw [if_neg h]
  unfold e0g
  rw [h1, if_neg h]
  exact ⟨rfl, rfl⟩
 have e2 : b0g n s = 0 → (refD n s).cls = 2 → a0y (refD n s).x (fmt n).g = false → c0o n s = 4 ∧ e0g n s = a0d [] := fun h h' h'' => by
  have h1 : c0o n s = 4 := by unfold c0o; rw [if_pos h, if_pos ⟨h', h''⟩]
  unfold e0g
  rw [h1]
  exact ⟨rfl, rfl⟩
 have e3 : b0g n s = 0 → ((refD n s).cls = 2 → a0y (refD n s).x (fmt n).g = true) → c0o n s = 0 ∧ e0g n s = a0d (y0w (fmt n) (refD n s)) := fun h h' => by
  have h1 : c0o n s = 0 := by unfold c0o; rw [if_pos h, if_neg (fun k => by have := h' k.1; rw [k.2] at this; cases this)]
  unfold e0g
  rw [h1]
  exact ⟨rfl, rfl⟩
 have hV := fun h => i0r (n := n) (s := s) h
 have hF : b0g n s = 0 → VrOk (refD n s) := fun h => (l0w (n := n) (s := s) (b0l.1 h).1).ok
 have hN := fun h h2 => x0d (n := n) (s := s) h h2
 have hG : b0g n s = 0 → e0r (fmt n).g := fun h => b0w (c0d (b0l.1 h).1).g
 have hB := fun (h : b0g n s = 0) h2 h3 k hk => q1q (k := k) h h2 h3 hk
 have hS : b0g n s = 0 → (refD n s).cls = 2 → a0y (refD n s).x (fmt n).g = true → _ := fun h h2 h3 => w0r (f := fmt n) (x := (refD n s).x) (c0d (b0l.1 h).1).g (m1y (b0l.1 h).1) (hF h).bare h3 (hN h h2).x0
 unfold y0w at e3
 generalize refD n s = r at *
 generalize decP n s = v at *
 generalize c0o n s = eo at *
 generalize e0g n s = oo at *
 generalize b0g n s = er at *
 have HGr := fun W => hi0 (y0k n W)
 have HW := fun p c b W (h : Own W b .u32 143 p c (dig B32 v.d)) (h2 : 1 ≤ v.cls ∧ v.cls ≤ 5) h3 => hi0 (y0q v p c b W h h2 h3)
 have HV := fun p c b W (h : Own W b .u32 143 p c (dig B32 v.d)) h2 => hi0 (p0y n v p c b W h h2)
 have HFt := fun (N : NumV (fmt n) v r) (G : e0r (fmt n).g) p q c d W h1 h2 => hi0 (u0t v.neg p q c d v.d 1 (wid (fmt n).g * v.pow) (fmt n).g 1 W h1 h2 (by have := N.len; omega) (Nat.le_trans ((a0e a0a 1 1).2 (by decide)) (by omega)) N.d0 (by omega) (by have := N.e; omega) G (by omega) (by omega))
 have hX := fun (N : NumV (fmt n) v r) (G : e0r (fmt n).g) => a1i (s := v.neg) (e := wid (fmt n).g * v.pow) (way := 1) N.d0 G
 have hbx : er = 0 → r.cls = 2 → bare ⟨v.neg, v.d, wid (fmt n).g * v.pow⟩ = r.x := fun h h2 => (hV h).num h2
 have HDc := fun (N : NumV (fmt n) v r) (k : Nat) (hk : 1 ≤ k ∧ k ≤ 60) p q a b b1 b2 W (h1 : Own W b1 .u32 143 p a (dig B32 v.d)) (h2 : Own W b2 .u32 143 q b (dig B32 1)) => hi0 (by
   have h := m0f v.neg v.d (wid (fmt n).g * v.pow) k p q a b b1 b2 W h1 h2 N.d0 (by have := N.len; omega) N.e (by omega)
   rw [N.dec] at h
   exact h : Calls Tryz.prog 67 #[.agg #[.bool v.neg, .slice p (dig B32 v.d).length a, .slice q (dig B32 1).length b, .int .i64 (wid (fmt n).g * v.pow)], .int .i64 (k : Int)] W fun en w' => en = .returned (.tuple #[.string (a0d (numX r.x k).1), .int .i64 (numX r.x k).2]) ∧ Below W.heap.size W w')
 have HNu := fun (F : VrOk r) (N : NumV (fmt n) v r) (k : Nat) (hk : 1 ≤ k ∧ k ≤ 60) W (h : PowW W) => hi0 (by
   have A := h0f (k := k) N.x0 F.len (by omega)
   have B := s0b (k := k) N.x0 F.len ⟨F.lo, F.hi⟩ (by omega)
   exact k0w v.neg (numX r.x k).1 (numX r.x k).2 W (m0s A.2.1) (fun h => by have := A.1; rw [h, List.length_nil] at this; omega) (by omega) (by omega) h)
 have HRa := fun (k : Nat) (B : u0v n v r k) W h => hi0 (by
   have h := u0p (a0d (numT v.neg (numX r.x k).1 (numX r.x k).2)) W h
   rw [B.er, B.rt] at h
   exact h : Calls Tryz.prog 11 #[.string (a0d (numT v.neg (numX r.x k).1 (numX r.x k).2))] W (m0q W 0 (ratX r.x k)))
 have HFq := fun (k : Nat) (B : u0v n v r k) p q c d b1 b2 W h1 h2 h3 => hi0 (by
   have h := y0u n 1 (ratX r.x k) p q c d b1 b2 W h1 h2 B.ok h3
   rw [B.out, B.eq] at h
   exact h)
 have HD2 := fun (k : Nat) (B : u0v n v r k) W h => hi0 (by
   have h := l0s n (strR n (g0g (fmt n) r.x k)) W h
   rw [B.pat] at h
   exact h)
 have HSa := fun (N : NumV (fmt n) v r) (k : Nat) (B : u0v n v r k) p q c d b1 b2 W h1 h2 => hi0 (by
   have h := j1j v (decP n (strR n (g0g (fmt n) r.x k))) p q c d b1 b2 W h1 h2 (by have := N.len; omega) (by have := B.len; omega)
   rw [B.same] at h
   exact h)
 generalize a0o v.neg v.d 1 (wid (fmt n).g * v.pow) (fmt n).g 1 = P at *
 generalize wid (fmt n).g * v.pow = E at *
 obtain ⟨wb, hwb⟩ : ∃ wb : Bool, (e0t v.cls v.neg = [] ↔ wb = false) := ⟨decide (v.cls ≠ 2), by rw [c0i]; simp⟩
 have I := Inv.start w [tabF, powF] ⟨hT, hP, True.intro⟩
 refine a0h [.v (.int .i64 n), .v (.string s)] I Tryz.func21 ?_
 refine zqo I (fun Al W I => (HD W I.fa.1).out) fun Al W p16 c16 I => ?_
 rcases Bool.eq_false_or_eq_true (er != 0) with f31 | f31
 · refine zb I 31 (er != 0) (true) (f31) fun Al W I => ?_
   refine zret I (v := fun Al => .tuple #[Go.Value.string (ByteArray.mk #[]), .int .i64 er]) fun Al W I => ?_
   first | (obtain ⟨h1, h2⟩ := e1 (bne_iff_ne.1 f31); rw [h1, h2]; exact ⟨rfl, I.below⟩) | (obtain ⟨h1, h2⟩ := e2 h0 hc (by simpa using hbd.symm); rw [h1, h2]; exact ⟨rfl, I.below⟩)
 refine zb I 31 (er != 0) (false) (f31) fun Al W I => ?_
 have h0 : er = 0 := bne_eq_false_iff_eq.1 f31
 have VR := hV h0
 have F := hF h0
 have G := hG h0
 refine zq I (fun Al W I => (HW p16 c16 _ W I.fa.1 (by rw [VR.cls]; exact F.c) I.fa.2.1).out) fun Al W I => ?_
 rcases Bool.eq_false_or_eq_true (wb) with f36 | f36
 · refine zbin I 36 (.bool true) (fun _ _ _ _ W => ((i0s (g0m _ _) hwb)).trans (congrArg (fun z => Result.ok (Value.bool z) W) (show (wb) = true from f36))) fun Al W I => ?_
   refine zret I (v := fun Al => .tuple #[.string (a0d (e0t v.cls v.neg)), .int .i64 0]) fun Al W I => ?_
   first | (have hc : r.cls ≠ 2 := fun h => (by have := hwb.1 (c0i.2 (VR.cls.trans h)); rw [this] at f36; cases f36); obtain ⟨q1, q2⟩ := e3 h0 (fun h => absurd h hc); rw [q1, q2, if_neg hc, ← VR.cls, ← VR.neg]; exact ⟨rfl, I.below⟩) | (obtain ⟨h1, h2⟩ := e2 h0 hc (by simpa using hbd.symm); rw [h1, h2]; exact ⟨rfl, I.below⟩)
 refine zbin I 36 (.bool false) (fun _ _ _ _ W => ((i0s (g0m _ _) hwb)).trans (congrArg (fun z => Result.ok (Value.bool z) W) (show (wb) = false from f36))) fun Al W I => ?_
 have hc : r.cls = 2 := by rw [← VR.cls]; exact c0i.1 (hwb.2 f36)
 have N := hN h0 hc
 have hX := hX N G
 rw [hbx h0 hc] at hX
 refine zq I (fun Al W I => (HGr W).out) fun Al W I => ?_
 refine zqo I (fun Al W I => have hzW := I.bel.size; (HV p16 c16 _ W I.fa.1 (by have := VR.lo; have := VR.hi; omega)).out) fun Al W q36 d36 I => ?_
 refine zqo I (fun Al W I => (HFt N G p16 q36 c16 d36 W I.fa.2.1.rd I.fa.1.rd).out) fun Al W p48 c48 I => ?_
 refine zcut I (some 3000010) (fun fr bx gs => ∃ (U1 : Nat → Value) (bd : Bool), fr = (.v (.int .i64 n) :: .v (.string s) :: su 2 (.v (Go.Value.string (ByteArray.mk #[])) :: .v (.int .i64 0) :: .p 0 0 :: .v (.int .i64 er) :: .v (.string (a0d (e0t v.cls v.neg))) :: .p 1 0 :: .v (U1 10) :: .p 2 0 :: .p 3 0 :: su 5 (.v (U1 18) :: .v undef :: .v (U1 20) :: su 2 (sw U1 23 8 (.v (.bool false) :: sw U1 32 4 (.v (.bool false) :: sw U1 37 27 (.v (.bool bd) :: sw U1 65 26 (.v undef :: sw U1 92 8 (.v undef :: .v (U1 101) :: [])))))))) : List SV) ∧ bx = [⟨66, [.v (.int .i64 (v.cls : Int)), .v (.bool v.neg), .v (.slice p16 (dig B32 v.d).length c16), .v (.int .i64 v.pow)], false⟩, ⟨40, [.v (.int .i64 ((fmt n).g.rad)), .v (.int .i64 ((fmt n).g.digs)), .v (.int .i64 ((fmt n).g.lo)), .v (.int .i64 ((fmt n).g.hi)), .v (.bool ((fmt n).g.grad))], false⟩, ⟨25, [.v (.bool v.neg), .v (.slice p16 (dig B32 v.d).length c16), .v (.slice q36 (dig B32 1).length d36), .v (.int .i64 E)], false⟩, ⟨116, [.v (.bool P.neg), .v (.slice p48 (dig B32 P.d).length c48), .v (.int .i64 P.pow), .v (.bool P.exact), .v (.bool P.over), .v (.bool P.under)], false⟩] ∧ gs = [ownF w.heap.size .u32 143 p48 c48 (dig B32 P.d), ownF w.heap.size .u32 143 q36 d36 (dig B32 1), ownF w.heap.size .u32 143 p16 c16 (dig B32 v.d), tabF, powF] ∧ (bd = !a0y r.x (fmt n).g)) ?_ ?_
 · intro J hJ Al W I
   rcases Bool.eq_false_or_eq_true (!P.exact) with f51 | f51
   · refine zb I 51 (!P.exact) (true) (f51) fun Al W I => ?_
     exact a0k I J fun Al W U I => hJ _ _ _ _ _ ⟨U, true, rfl, rfl, rfl, (by rw [← hX]; unfold okP; exact bad1 f51)⟩ (I.pick [0, 1, 2, 3, 4])
   refine zb I 51 (!P.exact) (false) (f51) fun Al W I => ?_
   rcases Bool.eq_false_or_eq_true (P.over) with f54 | f54
   · refine zb I 54 (P.over) (true) (f54) fun Al W I => ?_
     exact a0k I J fun Al W U I => hJ _ _ _ _ _ ⟨U, true, rfl, rfl, rfl, (by rw [← hX]; unfold okP; first | exact bad1 f51 | exact bad2 f54)⟩ (I.pick [0, 1, 2, 3, 4])
   refine zb I 54 (P.over) (false) (f54) fun Al W I => ?_
   rcases Bool.eq_false_or_eq_true (P.under) with f58 | f58
   · refine zb I 58 (P.under) (true) (f58) fun Al W I => ?_
     exact a0k I J fun Al W U I => hJ _ _ _ _ _ ⟨U, !((fmt n).g.grad), rfl, rfl, rfl, (by rw [← hX]; unfold okP; first | exact bad1 f51 | exact bad2 f54 | exact bad3 f51 f54 f58 | exact bad4 f51 f54 f58)⟩ (I.pick [0, 1, 2, 3, 4])
   refine zb I 58 (P.under) (false) (f58) fun Al W I => ?_
   exact a0k I J fun Al W U I => hJ _ _ _ _ _ ⟨U, false, rfl, rfl, rfl, (by rw [← hX]; unfold okP; first | exact bad1 f51 | exact bad2 f54 | exact bad3 f51 f54 f58 | exact bad4 f51 f54 f58)⟩ (I.pick [0, 1, 2, 3, 4])
 rintro _ _ _ ⟨U1, bd, rfl, rfl, rfl, hbd⟩ Al W I
 refine zcut I (some 2000064) (fun fr bx gs => ∃ (U2 : Nat → Value) , fr = (.v (.int .i64 n) :: .v (.string s) :: su 2 (sw U2 4 2 (.p 0 0 :: .v (.int .i64 er) :: .v (.string (a0d (e0t v.cls v.neg))) :: .p 1 0 :: .v (U2 10) :: .p 2 0 :: .p 3 0 :: su 5 (.v (U2 18) :: .v undef :: .v (U2 20) :: su 2 (sw U2 23 8 (.v (.bool false) :: sw U2 32 4 (.v (.bool false) :: sw U2 37 27 (.v (.bool bd) :: sw U2 65 26 (.v undef :: sw U2 92 8 (.v undef :: .v (U2 101) :: []))))))))) : List SV) ∧ bx = [⟨66, [.v (.int .i64 (v.cls : Int)), .v (.bool v.neg), .v (.slice p16 (dig B32 v.d).length c16), .v (.int .i64 v.pow)], false⟩, ⟨40, [.v (.int .i64 ((fmt n).g.rad)), .v (.int .i64 ((fmt n).g.digs)), .v (.int .i64 ((fmt n).g.lo)), .v (.int .i64 ((fmt n).g.hi)), .v (.bool ((fmt n).g.grad))], false⟩, ⟨25, [.v (.bool v.neg), .v (.slice p16 (dig B32 v.d).length c16), .v (.slice q36 (dig B32 1).length d36), .v (.int .i64 E)], false⟩, ⟨116, [.v (.bool P.neg), .v (.slice p48 (dig B32 P.d).length c48), .v (.int .i64 P.pow), .v (.bool P.exact), .v (.bool P.over), .v (.bool P.under)], false⟩] ∧ gs = [ownF w.heap.size .u32 143 p48 c48 (dig B32 P.d), ownF w.heap.size .u32 143 q36 d36 (dig B32 1), ownF w.heap.size .u32 143 p16 c16 (dig B32 v.d), tabF, powF] ∧ (a0y r.x (fmt n).g = true)) ?_ ?_
 · intro J hJ Al W I
   rcases Bool.eq_false_or_eq_true bd with rfl | rfl
   · refine zret I (v := fun Al => .tuple #[Go.Value.string (ByteArray.mk #[]), .int .i64 4]) fun Al W I => ?_
     first | (have hc : r.cls ≠ 2 := fun h => (by have := hwb.1 (c0i.2 (VR.cls.trans h)); rw [this] at f36; cases f36); obtain ⟨q1, q2⟩ := e3 h0 (fun h => absurd h hc); rw [q1, q2, if_neg hc, ← VR.cls, ← VR.neg]; exact ⟨rfl, I.below⟩) | (obtain ⟨h1, h2⟩ := e2 h0 hc (by simpa using hbd.symm); rw [h1, h2]; exact ⟨rfl, I.below⟩)
   exact a0k I J fun Al W U I => hJ _ _ _ _ _ ⟨U, rfl, rfl, rfl, (by simpa using hbd.symm)⟩ (I.pick [0, 1, 2, 3, 4])
 rintro _ _ _ ⟨U2, rfl, rfl, rfl, hin⟩ Al W I
 obtain ⟨s1, s2, s3, s4⟩ := hS h0 hc hin
 have hB := hB h0 hc hin
 refine i0u I (fun gk fr bx gs => ∃ (U900 : Nat → Value) (k : Nat), fr = (.v (.int .i64 n) :: .v (.string s) :: su 2 (sw U900 4 2 (.p 0 0 :: .v (.int .i64 er) :: .v (.string (a0d (e0t v.cls v.neg))) :: .p 1 0 :: .v (U900 10) :: .p 2 0 :: .p 3 0 :: .v (.int .i64 (k : Int)) :: sw U900 14 17 (.v (.bool false) :: sw U900 32 4 (.v (.bool false) :: sw U900 37 27 (.v (.bool bd) :: sw U900 65 37 []))))) : List SV) ∧ bx = [⟨66, [.v (.int .i64 (v.cls : Int)), .v (.bool v.neg), .v (.slice p16 (dig B32 v.d).length c16), .v (.int .i64 v.pow)], false⟩, ⟨40, [.v (.int .i64 ((fmt n).g.rad)), .v (.int .i64 ((fmt n).g.digs)), .v (.int .i64 ((fmt n).g.lo)), .v (.int .i64 ((fmt n).g.hi)), .v (.bool ((fmt n).g.grad))], false⟩, ⟨25, [.v (.bool v.neg), .v (.slice p16 (dig B32 v.d).length c16), .v (.slice q36 (dig B32 1).length d36), .v (.int .i64 E)], false⟩, ⟨116, [.v (.bool P.neg), .v (.slice p48 (dig B32 P.d).length c48), .v (.int .i64 P.pow), .v (.bool P.exact), .v (.bool P.over), .v (.bool P.under)], false⟩] ∧ gs = [ownF w.heap.size .u32 143 p48 c48 (dig B32 P.d), ownF w.heap.size .u32 143 q36 d36 (dig B32 1), ownF w.heap.size .u32 143 p16 c16 (dig B32 v.d), tabF, powF] ∧ (1 ≤ k ∧ k ≤ j0b (fmt n) r.x) ∧ (gk + k = 31)) 30 (fun Al W U I => ⟨_, ⟨U, 1, rfl, rfl, rfl, (by omega), rfl⟩, I.pick [0, 1, 2, 3, 4]⟩) ?_
 rintro J0 gk0 _ _ _ ⟨U900, k, rfl, rfl, rfl, hk1, hgk⟩ hJ0 Al W I
 have B := hB k (by omega)
 refine zq I (fun Al W I => have hzW := I.bel.size; (HDc N k (by omega) p16 q36 c16 d36 _ _ W I.fa.2.2.1 I.fa.2.1).out) fun Al W I => ?_
 refine zq I (fun Al W I => have hzW := I.bel.size; (HNu F N k (by omega) W I.fa.2.2.2.2.1).out) fun Al W I => ?_
 refine zg I (fun Al W I => (HRa k B W I.fa.2.2.2.1).out) fun Al V Iv _ hB _ kz => ?_
 rintro _ W ⟨p80, c80, q80, d80, rfl, o80, r80, hb⟩
 refine ⟨_, rfl, kz _ _ hb fun I => ?_⟩
 have I := I.own o80
 have I := I.own r80
 refine zq I (fun Al W I => (HFq k B p80 q80 c80 d80 _ _ W I.fa.2.1 I.fa.1 I.fa.2.2.2.2.2.1).out) fun Al W I => ?_
 refine zqo I (fun Al W I => (HD2 k B W I.fa.2.2.2.2.2.1).out) fun Al W p95 c95 I => ?_
 by_cases f100 : okX (fmt n) r.x k = true
 · refine zqd I (fun Al W I => (HSa N k B p16 p95 c16 c95 _ _ W I.fa.2.2.2.2.2.1 I.fa.1).out) (show (okX (fmt n) r.x k) = true from f100) fun Al W I => ?_
   refine zret I (v := fun Al => .tuple #[.string (a0d (numT v.neg (numX r.x k).1 (numX r.x k).2)), .int .i64 0]) fun Al W I => ?_
   first | (have hc : r.cls ≠ 2 := fun h => (by have := hwb.1 (c0i.2 (VR.cls.trans h)); rw [this] at f36; cases f36); obtain ⟨q1, q2⟩ := e3 h0 (fun h => absurd h hc); rw [q1, q2, if_neg hc, ← VR.cls, ← VR.neg]; exact ⟨rfl, I.below⟩) | (obtain ⟨h1, h2⟩ := e2 h0 hc (by simpa using hbd.symm); rw [h1, h2]; exact ⟨rfl, I.below⟩) | (have hkk : k = j0b (fmt n) r.x := (by rcases Nat.lt_or_ge k (j0b (fmt n) r.x) with h | h; (have := s4 k hk1.1 h; rw [this] at f100; cases f100); omega); obtain ⟨q1, q2⟩ := e3 h0 (fun _ => hin); rw [q1, q2, if_pos hc, ← VR.neg, hkk]; exact ⟨rfl, I.below⟩)
 refine zqd I (fun Al W I => (HSa N k B p16 p95 c16 c95 _ _ W I.fa.2.2.2.2.2.1 I.fa.1).out) (show (okX (fmt n) r.x k) = false from (by simpa using f100)) fun Al W I => ?_
 refine zi I 66 .i64 ((k : Int) + 1) (((k + 1 : Nat) : Int)) ((by rw [show ((k : Int) + 1) = ((k + 1 : Nat) : Int) by omega]; exact iwo)) fun Al W I => ?_
 exact k1o 4 I J0 fun Al W U I => hJ0 (gk0 - 1) _ _ _ _ _ ((by omega)) ⟨U, k + 1, rfl, rfl, rfl, (by have : k ≠ j0b (fmt n) r.x := fun h => (f100 (by rw [h]; exact s3)).elim; omega), (by omega)⟩ (I.pick [3, 4, 5, 6, 7])
theorem o0j : c0u 2 1 [48, 46, 49] = 0 ∧ flP' 2 1 [48, 46, 49] = 1 ∧ 0 < (ratL [48, 46, 49]).2.1 ∧ 0 < (ratL [48, 46, 49]).2.2.1 := by decide +kernel
theorem f1u : (fitQ 2 (ratL [48, 46, 49]) 1).1.cls = 2 ∧ (fitQ 2 (ratL [48, 46, 49]) 1).1.neg = false ∧ (fitQ 2 (ratL [48, 46, 49]) 1).1.x.neg = false ∧ (fitQ 2 (ratL [48, 46, 49]) 1).1.x.m = 3602879701896397 ∧ (fitQ 2 (ratL [48, 46, 49]) 1).1.x.e = -55 := by decide +kernel
theorem x0e : a0y ⟨false, 3602879701896397, -55⟩ (fmt 2).g = true ∧ y0w (fmt 2) ⟨2, false, ⟨false, 3602879701896397, -55⟩⟩ = [49, 101, 45, 49] := by decide +kernel
theorem f1v : c0o 2 (outP 2 1 [48, 46, 49]) = 0 ∧ e0g 2 (outP 2 1 [48, 46, 49]) = a0d [49, 101, 45, 49] := by
 obtain ⟨a1, a2, a3, a4⟩ := o0j
 obtain ⟨b1, b2, b3, b4, b5⟩ := f1u
 obtain ⟨c1, c2⟩ := x0e
 have hn : IsFm 2 := by decide
 have R := (l0v (c0d hn) (neg := (ratL [48, 46, 49]).1) (num := (ratL [48, 46, 49]).2.1) (e := (ratL [48, 46, 49]).2.2.2) (way := 1) a4).1
 have hf : (fitQ 2 (ratL [48, 46, 49]) 1).1 = ((fmt 2).placedM (a0o (ratL [48, 46, 49]).1 (ratL [48, 46, 49]).2.1 (ratL [48, 46, 49]).2.2.1 (ratL [48, 46, 49]).2.2.2 (fmt 2).g 1) 1).1 := by
  unfold fitQ
  rw [if_neg (by omega)]
 rw [← hf] at R
 have hx : (fitQ 2 (ratL [48, 46, 49]) 1).1 = ⟨2, false, ⟨false, 3602879701896397, -55⟩⟩ := by
  generalize (fitQ 2 (ratL [48, 46, 49]) 1).1 = r at *
  obtain ⟨k, g, h, m, e⟩ := r
  simp only at b1 b2 b3 b4 b5
  rw [b1, b2, b3, b4, b5]
 rw [hx] at R
 have hP : outP 2 1 [48, 46, 49] = strR 2 ⟨2, false, ⟨false, 3602879701896397, -55⟩⟩ := by unfold outP; rw [if_pos a1, hx]
 obtain ⟨d1, d2⟩ := y0t hn R
 have he : c0o 2 (strR 2 ⟨2, false, ⟨false, 3602879701896397, -55⟩⟩) = 0 := by
  unfold c0o
  rw [if_pos d1, d2, if_neg (fun h => by have := h.2; rw [show (⟨2, false, ⟨false, 3602879701896397, -55⟩⟩ : Vr).x = ⟨false, 3602879701896397, -55⟩ from rfl, c1] at this; cases this)]
 rw [hP]
 refine ⟨he, ?_⟩
 unfold e0g
 rw [if_pos he, d2, c2]
theorem s0l (w : World) (hT : TabW w) (hP : PowW w) : Calls Tryz.prog 13 #[] w fun en w' => en = .returned (.bool true) ∧ Below w.heap.size w w' := by
 have HA := fun W h => hi0 (a1v 2 ⟨#[48, 46, 49]⟩ 1 W h)
 have HS := fun s W h h2 => hi0 (u0w 2 s W h h2)
 obtain ⟨a1, a2, _, _⟩ := o0j
 obtain ⟨b1, b2⟩ := f1v
 rw [show a0b ⟨#[48, 46, 49]⟩ = [48, 46, 49] from rfl, a1, a2, show ((1 : Nat) : Int) = 1 from rfl] at HA
 generalize outP 2 1 [48, 46, 49] = S at *
 have HS := HS S
 rw [b1, b2] at HS
 have I := Inv.start w [tabF, powF] ⟨hT, hP, True.intro⟩
 refine a0h [] I Tryz.func13 ?_
 refine zq I (fun Al W I => (HA W I.fa.1).out) fun Al W I => ?_
 refine zq I (fun Al W I => (HS W I.fa.1 I.fa.2.1).out) fun Al W I => ?_
 refine zbin I 28 _ (fun _ _ _ _ _ => (h0i (s := a0d [49, 101, 45, 49]) (r := ⟨#[49, 101, 45, 49]⟩) (iff_of_true rfl rfl))) fun Al W I => ?_
 exact zrb I
end Go.Proofs.YtbamiajjampgnaaGreatDoor
namespace Go.Slip
open Go.RowKit
end Go.Slip
namespace Go.Proofs.YtbamiajjampgnaaGreatDoor
open Go.RowKit Go.Slip
structure Wp where
 r : Vr
 p : Option Addr
 c : Nat
def Wp.cells (x : Wp) : List Value := [.int .i64 (x.r.cls : Int), .bool x.r.neg, .bool x.r.x.neg, .slice x.p (dig B16 x.r.x.m).length x.c, .int .i64 x.r.x.e]
theorem Wp.len (x : Wp) : x.cells.length = 5 := rfl
theorem r1p : k0c Tryz.prog 3 := k0d (by kernel_rfl) (by kernel_rfl)
end Go.Proofs.YtbamiajjampgnaaGreatDoor
namespace Go.Slip
open Go.RowKit
end Go.Slip
namespace Go.Proofs.YtbamiajjampgnaaGreatDoor
open Go.RowKit Go.Slip
theorem tvNn : l0i Tryz.prog 29 3 (.int .i64 0) 8 := tyV (by kernel_rfl) (by kernel_rfl) (by omega) rfl rfl
end Go.Proofs.YtbamiajjampgnaaGreatDoor
namespace Go.Slip
theorem f1w : dig B16 10 = [10] := by rw [c0k a0g (by omega), show 10 / B16 = 0 by unfold B16; omega, a0c, show 10 % B16 = 10 by unfold B16; omega]
theorem i0f : dig B16 2 = [2] := by rw [c0k a0g (by omega), show 2 / B16 = 0 by unfold B16; omega, a0c, show 2 % B16 = 2 by unfold B16; omega]
theorem x0f {j : Nat} (h : j ≤ 100000) : (dig B16 (10 ^ j)).length ≤ 100001 := h0e (K := 100001) a0g (by decide) (by omega) (by omega)
end Go.Slip
namespace Go.Proofs.YtbamiajjampgnaaGreatDoor
open Go.RowKit Go.Slip
theorem j0e (N : Int) (n : Nat) (h : N = n) (hn : n ≤ 40000) (w : World) : Calls Tryz.prog 146 #[.int .i64 N] w (GRf w (dig B16 (10 ^ n))) := by
 subst h
 have HT := fun p q c d a b x W hp hq h1 h2 h3 => hi0 (y0o p q _ _ c d a b x W hp hq rfl rfl h1 h2 h3)
 have hl := @x0f
 have e1 : dig B16 (10 ^ 1) = [10] := by rw [Nat.pow_one]; exact f1w
 have e0 : dig B16 (10 ^ 0) = [1] := by rw [Nat.pow_zero]; exact g0i
 have I := Inv.start w [] True.intro
 refine a0h [.v (.int .i64 (n : Int))] I Tryz.func146 ?_
 refine zlv I 5 1 3 (dig B16 (10 ^ 0)) e0 fun Al W p5 I => ?_
 refine zlv I 6 10 3 (dig B16 (10 ^ 1)) e1 fun Al W p6 I => ?_
 refine i0u I (fun gk fr bx gs => ∃ (U900 : Nat → Value) (m : Nat) (s : Nat) (t : Nat) (pa : Option Addr) (ca : Nat) (pb : Option Addr) (cb : Nat), fr = (.v (.int .i64 (m : Int)) :: .v undef :: .v (.slice none 0 0) :: .v (.slice pa (dig B16 (10 ^ s)).length ca) :: .v (.slice pb (dig B16 (10 ^ t)).length cb) :: sw U900 5 16 [] : List SV) ∧ bx = [] ∧ gs = [rfF w.heap.size pb cb (dig B16 (10 ^ t)), rfF w.heap.size pa ca (dig B16 (10 ^ s))] ∧ (gk = m) ∧ (s + t * m = n) ∧ (t ≤ 2 * n + 1) ∧ (m ≤ n)) n (fun Al W U I => ⟨_, ⟨U, n, 0, 1, p5, 1, p6, 1, rfl, rfl, rfl, rfl, (by omega), (by omega), Nat.le_refl _⟩, I.pick [0, 1]⟩) ?_
 rintro J0 gk0 _ _ _ ⟨U900, m, s, t, pa, ca, pb, cb, rfl, rfl, rfl, hgk, hs, ht, hmn⟩ hJ0 Al W I
 rcases Bool.eq_false_or_eq_true (decide ((m : Int) > 0)) with f8 | f8
 · refine zb I 8 (decide ((m : Int) > 0)) (true) (f8) fun Al W I => ?_
   have hm0 : 0 < m := by have := oTr f8; omega
   have htn : t ≤ n := Nat.le_trans (Nat.le_mul_of_pos_right t hm0) (by omega)
   have hsn : s ≤ n := by omega
   obtain ⟨q, hq⟩ : ∃ q, (((m % 2 : Nat) : Int) == 1) = q := ⟨_, rfl⟩
   refine zbin I 12 _ (fun _ _ _ _ _ => q0w .i64 (m : Int) (2) (((m % 2 : Nat) : Int)) (by omega) ((by rw [Int.tmod_eq_emod_of_nonneg (by omega)]; omega))) fun Al W I => ?_
   refine zb I 13 (((m % 2 : Nat) : Int) == 1) (q) (hq) fun Al W I => ?_
   refine zcut I (some 2000013) (fun fr bx gs => ∃ (U1 : Nat → Value) (s2 : Nat) (pa2 : Option Addr) (ca2 : Nat), fr = (.v (.int .i64 (m : Int)) :: .v undef :: .v (.slice none 0 0) :: .v (.slice pa2 (dig B16 (10 ^ s2)).length ca2) :: .v (.slice pb (dig B16 (10 ^ t)).length cb) :: sw U1 5 3 (.v (.bool true) :: sw U1 9 4 (.v (.bool q) :: sw U1 14 7 [])) : List SV) ∧ bx = [] ∧ gs = [rfF w.heap.size pa2 ca2 (dig B16 (10 ^ s2)), rfF w.heap.size pb cb (dig B16 (10 ^ t))] ∧ (s2 = s + t * (m % 2))) ?_ ?_
   · intro J hJ Al W I
     rcases Bool.eq_false_or_eq_true q with rfl | rfl
     · refine zqr I (fun Al W I => have hzW := I.bel.size; (HT pa pb ca cb (10 ^ s) (10 ^ t) (10 ^ (s + t)) W I.fa.2.1.rd I.fa.1.rd (by have := hl (show s ≤ 100000 by omega); omega) (by have := hl (show t ≤ 100000 by omega); omega) (Nat.pow_add _ _ _).symm).out) fun Al W p16 c16 I => ?_
       exact a0k I J fun Al W U I => hJ _ _ _ _ _ ⟨U, (s + t), p16, c16, rfl, rfl, rfl, (by have := beq_iff_eq.1 hq; rw [show m % 2 = 1 by omega, Nat.mul_one])⟩ (I.pick [0, 1])
     exact a0k I J fun Al W U I => hJ _ _ _ _ _ ⟨U, s, pa, ca, rfl, rfl, rfl, (by have := bnF hq; rw [show m % 2 = 0 by omega, Nat.mul_zero, Nat.add_zero])⟩ (I.pick [1, 0])
   rintro _ _ _ ⟨U1, s2, pa2, ca2, rfl, rfl, rfl, hs2⟩ Al W I
   refine zqr I (fun Al W I => have hzW := I.bel.size; (HT pb pb cb cb (10 ^ t) (10 ^ t) (10 ^ (t + t)) W I.fa.2.1.rd I.fa.2.1.rd (by have := hl (show t ≤ 100000 by omega); omega) (by have := hl (show t ≤ 100000 by omega); omega) (Nat.pow_add _ _ _).symm).out) fun Al W p19 c19 I => ?_
   refine zbin I 10 _ (fun _ _ _ _ _ => j0j .i64 (m : Int) (2) (((m / 2 : Nat) : Int)) (by omega) ((by rw [Int.tdiv_eq_ediv_of_nonneg (by omega)]; exact iwo))) fun Al W I => ?_
   exact a0k I J0 fun Al W U I => hJ0 (m / 2) _ _ _ _ _ ((by omega)) ⟨U, (m / 2), s2, (t + t), pa2, ca2, p19, c19, rfl, rfl, rfl, rfl, (by have := Nat.div_add_mod m 2; rw [hs2, ← hs]; generalize m / 2 = x at *; generalize m % 2 = y at *; subst this; rw [Nat.mul_add, Nat.add_mul, ← Nat.mul_assoc, Nat.mul_comm t 2, Nat.two_mul, Nat.add_mul]; omega), (by omega), (by omega)⟩ (I.pick [0, 1])
 refine zb I 8 (decide ((m : Int) > 0)) (false) (f8) fun Al W I => ?_
 have hm : m = 0 := by have := oFa f8; omega
 exact zret I (v := fun Al => .slice pa (dig B16 (10 ^ s)).length ca) fun Al W I => ⟨pa, ca, by rw [show n = s by rw [← hs, hm, Nat.mul_zero, Nat.add_zero]], by rw [show n = s by rw [← hs, hm, Nat.mul_zero, Nat.add_zero]]; exact I.fa.2.1, I.below⟩
end Go.Proofs.YtbamiajjampgnaaGreatDoor
namespace Go.Slip
theorem n1x {N D : Nat} {p : Int} (h : 0 ≤ p) : ge10 N D p ↔ D * 10 ^ p.toNat ≤ N := by unfold ge10; rw [show (-p).toNat = 0 by omega, Nat.pow_zero, Nat.mul_one]
theorem n1y {N D : Nat} {p : Int} (h : p < 0) : ge10 N D p ↔ D ≤ N * 10 ^ (-p).toNat := by unfold ge10; rw [show p.toNat = 0 by omega, Nat.pow_zero, Nat.mul_one]
theorem u0x {a b : Nat} {N D : Nat} {P p : Int} (hP : IsP N D P) (h : ge10 N D p ↔ a ≤ b) : decide (cmpN a b > 0) = decide (P < p) := by
 rw [decide_eq_decide]
 have h1 := hP.iff p
 rcases Nat.lt_or_ge b a with h2 | h2
 · rw [l0e h2]
   have : ¬ p ≤ P := fun h3 => by have := h.1 (h1.2 h3); omega
   omega
 · have h3 : p ≤ P := h1.1 (h.2 h2)
   rcases Nat.lt_or_eq_of_le h2 with h4 | h4
   · rw [g0s h4]; omega
   · subst h4; rw [m0u]; omega
end Go.Slip
namespace Go.Proofs.YtbamiajjampgnaaGreatDoor
open Go.RowKit Go.Slip
theorem x0g (N D : Nat) (P p : Int) (pn pd : Option Addr) (cn cd bn bd b1 b2 : Nat) (w : World) (BD : Bt w bd 29 #[.slice pd (dig B16 D).length cd]) (BN : Bt w bn 29 #[.slice pn (dig B16 N).length cn])
 (hd : Rf w b1 pd cd (dig B16 D)) (hn : Rf w b2 pn cn (dig B16 N)) (hP : IsP N D P) (hp : -20000 ≤ p ∧ p ≤ 20000) (h1 : (dig B16 D).length ≤ 100000) (h2 : (dig B16 N).length ≤ 100000) :
 Calls Tryz.prog 145 #[.int .i64 p, .pointer (some ⟨bd, 0, none⟩), .pointer (some ⟨bn, 0, none⟩)] w fun en w' => en = .returned (.bool (decide (P < p))) ∧ Below w.heap.size w w' := by
 have HP := fun M m W h hm => hi0 (j0e M m h hm W)
 have HT := fun p q c d a b W hp hq h1 h2 => hi0 (y0o p q _ _ c d a b _ W hp hq rfl rfl h1 h2 rfl)
 have HC := fun p q c d a b W hp hq h1 h2 => hi0 (f0c p q _ _ c d a b W hp hq rfl rfl h1 h2)
 have hl := @x0f
 have hu := fun h => u0x hP (n1x (N := N) (D := D) (p := p) h)
 have hv := fun h => u0x hP (n1y (N := N) (D := D) (p := p) h)
 have m1 := fun j => b0h a0g D (10 ^ j)
 have m2 := fun j => b0h a0g N (10 ^ j)
 have I := Inv.startR w [bd, bn] [⟨29, [.v (.slice pd (dig B16 D).length cd)], true⟩, ⟨29, [.v (.slice pn (dig B16 N).length cn)], true⟩] [rfF b1 pd cd (dig B16 D), rfF b2 pn cn (dig B16 N)] ⟨BD, BN, True.intro⟩ ⟨hd, hn, True.intro⟩
 refine a0h [.v (.int .i64 p), .p 0 0, .p 1 0] I Tryz.func145 ?_
 rcases Bool.eq_false_or_eq_true (decide (p ≥ 0)) with f6 | f6
 · refine zb I 6 (decide (p ≥ 0)) (true) (f6) fun Al W I => ?_
   refine zd [] I fun Al W I => ?_
   refine zk [0, 1, 4] I fun I => ?_
   refine zo 2 I fun I => ?_
   refine zqr I (fun Al W I => have hzW := I.bel.size; (HP p p.toNat W (by have := oTr f6; omega) (by omega)).out) fun Al W p9 c9 I => ?_
   refine zo 3 I fun I => ?_
   refine zqr I (fun Al W I => have hzW := I.bel.size; (HT pd p9 cd c9 D (10 ^ p.toNat) W I.fa.2.1.rd I.fa.1.rd (by omega) (by have := hl (show p.toNat ≤ 100000 by omega); omega)).out) fun Al W p10 c10 I => ?_
   refine zo 5 I fun I => ?_
   refine zq I (fun Al W I => have hzW := I.bel.size; (HC p10 pn c10 cn (D * 10 ^ p.toNat) N W I.fa.1.rd I.fa.2.2.2.1.rd (by have := hl (show p.toNat ≤ 100000 by omega); have := m1 p.toNat; omega) (by omega)).out) fun Al W I => ?_
   refine zk [6, 7] I fun I => ?_
   exact zret I (v := fun Al => .bool (decide ((cmpN (D * 10 ^ p.toNat) N) > 0))) fun Al W I => ⟨by rw [← hu (oTr f6)], I.below⟩
 refine zb I 6 (decide (p ≥ 0)) (false) (f6) fun Al W I => ?_
 refine zd [] I fun Al W I => ?_
 refine zk [0, 1, 2] I fun I => ?_
 refine zki 3 I .i64 (0 - p) ((-p)) ((by rw [Int.zero_sub]; exact iwo)) fun I => ?_
 refine zo 4 I fun I => ?_
 refine zqr I (fun Al W I => have hzW := I.bel.size; (HP (-p) (-p).toNat W (by have := oFa f6; omega) (by omega)).out) fun Al W p18 c18 I => ?_
 refine zo 5 I fun I => ?_
 refine zqr I (fun Al W I => have hzW := I.bel.size; (HT pn p18 cn c18 N (10 ^ (-p).toNat) W I.fa.2.2.1.rd I.fa.1.rd (by omega) (by have := hl (show (-p).toNat ≤ 100000 by omega); omega)).out) fun Al W p19 c19 I => ?_
 refine zo 6 I fun I => ?_
 refine zq I (fun Al W I => have hzW := I.bel.size; (HC pd p19 cd c19 D (N * 10 ^ (-p).toNat) W I.fa.2.2.1.rd I.fa.1.rd (by omega) (by have := hl (show (-p).toNat ≤ 100000 by omega); have := m2 (-p).toNat; omega)).out) fun Al W I => ?_
 refine zk [7, 8] I fun I => ?_
 exact zret I (v := fun Al => .bool (decide ((cmpN D (N * 10 ^ (-p).toNat)) > 0))) fun Al W I => ⟨by rw [← hv (by have := oFa f6; omega)], I.below⟩
theorem _root_.Go.Slip.Inv.rebase {E : List Nat} {w0 : World} {A : List Nat} {bx : List Box} {fs : List PF} {W : World} {b c : Nat} {p : Option Addr} {xs : List Nat} (I : Inv E w0 A bx (rfF b p c xs :: fs) W) (b' : Nat) (h : b' ≤ b) : Inv E w0 A bx (rfF b' p c xs :: fs) W :=
 ⟨I.bel, I.ge, I.nd, I.len, I.pre, I.bt, ⟨I.fa.1.mono h, I.fa.2⟩, fun a ha => ⟨fun hf => (I.far a ha).1 hf, (I.far a ha).2⟩⟩
def GRq3 (w : World) (x y : Nat) (en : Ending) (w' : World) : Prop := ∃ p c q d, en = .returned (.tuple #[.slice p (dig B16 x).length c, .slice q (dig B16 y).length d]) ∧ Rf w' w.heap.size p c (dig B16 x) ∧ Rf w' w.heap.size q d (dig B16 y) ∧ Below w.heap.size w w'
theorem q1r (p q : Option Addr) (c d a b : Nat) (W : World) (hp : Rd W .i64 p (dig B16 a)) (hq : Rd W .i64 q (dig B16 b)) (h1 : (dig B16 a).length ≤ 100000000) (h2 : (dig B16 b).length ≤ 100000000) (hb : 0 < b) : Calls Tryz.prog 54 #[.slice p (dig B16 a).length c, .slice q (dig B16 b).length d] W (GRq3 W (a / b) (a % b)) :=
 (w0s p q _ _ c d a b W hp hq rfl rfl h1 h2 hb).mono fun _ _ ⟨p, c, q, d, h1, h2, h3, h4, h5, h6, h7, h8⟩ => ⟨p, c, q, d, h1, b1q h2 h3 h4, b1q h5 h6 h7, h8⟩
theorem n1z (n : Nat) : ((dg (dig B16 n) 0 : Nat) : Int).tmod 2 = ((n % 2 : Nat) : Int) := by
 have h0 : dg (dig B16 n) 0 = n % B16 := by
  by_cases h : n = 0
  · subst h; rw [a0c]; rfl
  · rw [c0k a0g (by omega)]; rfl
 rw [h0, Int.tmod_eq_emod_of_nonneg (by omega)]
 unfold B16
 omega
theorem o0k {x : Int} (h : -40000 ≤ x ∧ x ≤ 40000) : -12000 ≤ (x * 30).tdiv 100 ∧ (x * 30).tdiv 100 ≤ 12000 := by
 rcases Int.le_total 0 x with h1 | h1
 · rw [Int.tdiv_eq_ediv_of_nonneg (by omega)]; omega
 · rw [show x * 30 = -((-x) * 30) by omega, Int.neg_tdiv, Int.tdiv_eq_ediv_of_nonneg (by omega)]; omega
structure DgOk (n d k : Nat) (P : Int) : Prop where
 n0 : 0 < n
 d0 : 0 < d
 p : IsP n d P
 ln : (dig B16 n).length ≤ 5000
 ld : (dig B16 d).length ≤ 5000
 bn : blen n ≤ 30000
 bd : blen d ≤ 30000
 lo : -11000 ≤ P
 hi : P ≤ 11000
 dec : decM n d k = if k < (a0r (dT n d (k - 1 - P))).length then ((a0r (dT n d (k - 1 - P))).take k, P + 1) else (a0r (dT n d (k - 1 - P)), P)
theorem dgOk {x : Dv} (h0 : x.m ≠ 0) (hl : (dig B32 x.m).length ≤ 20) (he : -18000 ≤ x.e ∧ x.e ≤ 18000) (k : Nat) : ∃ P, ∀ n d, n = numP x.m x.e → d = denP 1 x.e → DgOk n d k P := by
 refine ⟨theP (numP x.m x.e) (denP 1 x.e), ?_⟩
 rintro _ _ rfl rfl
 have hN : 0 < numP x.m x.e := i0m (by omega) x.e
 have hD : 0 < denP 1 x.e := d0t (by omega) x.e
 have hP := j0n hN hD
 have hb := hP.bd hD
 have bm := c0f x.m
 have bN : blen (numP x.m x.e) ≤ blen x.m + x.e.toNat := by
  refine (a0x _ (blen x.m + x.e.toNat)).2 ?_
  unfold numP
  have h1 := (a0x x.m _).1 (Nat.le_refl _)
  calc x.m * 2 ^ x.e.toNat < 2 ^ blen x.m * 2 ^ x.e.toNat := Nat.mul_lt_mul_of_pos_right h1 (Nat.pow_pos (by omega))
   _ = 2 ^ (blen x.m + x.e.toNat) := (Nat.pow_add _ _ _).symm
 have bD : blen (denP 1 x.e) ≤ (-x.e).toNat + 1 := by
  refine (a0x _ ((-x.e).toNat + 1)).2 ?_
  unfold denP
  rw [Nat.one_mul]
  exact Nat.pow_lt_pow_right (by omega) (by omega)
 have hlen : ∀ a, blen a ≤ 20000 → (dig B16 a).length ≤ 5000 := fun a ha => by
  obtain ⟨K, hK⟩ : ∃ K, K = 5000 := ⟨_, rfl⟩
  rw [← hK, a0e a0g]
  refine Nat.lt_of_lt_of_le ((a0x a _).1 (Nat.le_refl _)) ?_
  rw [show B16 = 2 ^ 16 from rfl, ← Nat.pow_mul]
  exact Nat.pow_le_pow_right (by omega) (by omega)
 exact ⟨hN, hD, hP, hlen _ (by omega), hlen _ (by omega), by omega, by omega, by omega, by omega, f1m rfl⟩
theorem o0l (x : Dv) (k : Nat) (p : Option Addr) (c b0 : Nat) (w : World) (hp : Rf w b0 p c (dig B16 x.m)) (h0 : x.m ≠ 0) (hl : (dig B32 x.m).length ≤ 20) (he : -18000 ≤ x.e ∧ x.e ≤ 18000) (hk : 1 ≤ k ∧ k ≤ 100) :
 Calls Tryz.prog 80 #[.agg #[.bool x.neg, .slice p (dig B16 x.m).length c, .int .i64 x.e], .int .i64 (k : Int)] w fun en w' => en = .returned (.tuple #[.string (a0d (numX x k).1), .int .i64 (numX x k).2]) ∧ Below w.heap.size w w' := by
 obtain ⟨P, hA⟩ := dgOk h0 hl he k
 have hp := hp.mono (Nat.zero_le _)
 have lm : (dig B16 x.m).length ≤ 5000 := by have := c1m x.m; omega
 have e2 : 0 ≤ x.e → x.m * 2 ^ x.e.toNat = numP x.m x.e ∧ 1 = denP 1 x.e := fun h => ⟨rfl, by unfold denP; rw [show (-x.e).toNat = 0 by omega]⟩
 have e3 : ¬ 0 ≤ x.e → x.m = numP x.m x.e ∧ 2 ^ (-x.e).toNat = denP 1 x.e := fun h => ⟨by unfold numP; rw [show x.e.toNat = 0 by omega, Nat.pow_zero, Nat.mul_one], by unfold denP; rw [Nat.one_mul]⟩
 have hR : ∀ n d, n = numP x.m x.e → d = denP 1 x.e → decM n d k = numX x k := by rintro _ _ rfl rfl; rfl
 obtain ⟨xg, xm, xe⟩ := x
 simp only at lm e2 e3 hR hA hp h0 hl he ⊢
 generalize numX ⟨xg, xm, xe⟩ k = R at *
 generalize numP xm xe = N at *
 generalize denP 1 xe = D at *
 have HUp := fun p c a n M W hp hl h1 h2 => hi0 (rup p _ c a n _ M W hp rfl hl h1 h2 rfl)
 have HP2 := fun M n W h h1 => hi0 (q1f M n h h1 W)
 have HL := fun p c a W hp hl => hi0 ((a1d p _ c a W hp rfl hl).mono fun _ _ ⟨h1, h2⟩ => ⟨h1, h2 ▸ Below.refl _ _⟩ : Calls Tryz.prog 130 #[.slice p (dig B16 a).length c] W fun en W' => en = .returned (.int .i64 ((blen a : Nat) : Int)) ∧ Below W.heap.size W W')
 have HO := fun n d q pn pd cn cd bn bd b1 b2 W B1 B2 h1 h2 (K : DgOk n d k P) hq => hi0 (x0g n d P q pn pd cn cd bn bd b1 b2 W B1 B2 h1 h2 K.p hq (by have := K.ld; omega) (by have := K.ln; omega))
 have HPw := fun M m W h hm => hi0 (j0e M m h hm W)
 have HT := fun p q c d a b W hp hq h1 h2 => hi0 (y0o p q _ _ c d a b _ W hp hq rfl rfl h1 h2 rfl)
 have HI := fun p q c d a b W hp hq h1 h2 h3 => hi0 (q1r p q c d a b W hp hq h1 h2 h3)
 have HC := fun p q c d a b W hp hq h1 h2 => hi0 (f0c p q _ _ c d a b W hp hq rfl rfl h1 h2)
 have HPl := fun p q c d a b W hp hq h1 h2 => hi0 (i1v p q _ _ c d a b _ W hp hq rfl rfl h1 h2 rfl)
 have HDe := fun p c a W hp hl => hi0 (i0e p _ c a W hp rfl hl)
 have hlt := @x0f
 have d1 : (dig B16 1).length ≤ 1 := by rw [g0i]; decide
 have d2 : (dig B16 2).length ≤ 1 := by rw [i0f]; decide
 have l2 := h0e (B := B16) (a := 2) (K := 20000) (e := (-xe).toNat) a0g (by decide) (by omega) (by omega)
 obtain ⟨q20, hq20⟩ : ∃ q, decide (xe ≥ 0) = q := ⟨_, rfl⟩
 have I := Inv.start w [rfF 0 p c (dig B16 xm)] ⟨hp, True.intro⟩
 refine a0h [.v (.agg #[.bool xg, .slice p (dig B16 xm).length c, .int .i64 xe]), .v (.int .i64 (k : Int))] I Tryz.func80 ?_
 refine zlv I 17 1 3 (dig B16 1) g0i fun Al W p17 I => ?_
 have I := I.rebase 0 (by omega)
 refine zb I 20 (decide (xe ≥ 0)) (q20) (hq20) fun Al W I => ?_
 refine zcut I (some 2000020) (fun fr bx gs => ∃ (U1 : Nat → Value) (n : Nat) (d : Nat) (pn : Option Addr) (cn : Nat) (pd : Option Addr) (cd : Nat), fr = (.v (.agg #[.bool xg, .slice p (dig B16 xm).length c, .int .i64 xe]) :: .v (.int .i64 (k : Int)) :: .p 0 0 :: .v undef :: .v (Go.Value.string (ByteArray.mk #[])) :: .v (.int .i64 0) :: .p 1 0 :: .p 2 0 :: su 7 (sw U1 15 5 (.v (.bool q20) :: sw U1 21 20 (.v undef :: sw U1 42 6 (.v undef :: sw U1 49 7 (.v undef :: sw U1 57 32 (.v undef :: sw U1 90 8 (.v undef :: sw U1 99 7 []))))))) : List SV) ∧ bx = [⟨47, [.v (.bool xg), .v (.slice p (dig B16 xm).length c), .v (.int .i64 xe)], false⟩, ⟨29, [.v (.slice pn (dig B16 n).length cn)], false⟩, ⟨29, [.v (.slice pd (dig B16 d).length cd)], false⟩] ∧ gs = [rfF 0 pd cd (dig B16 d), rfF 0 pn cn (dig B16 n)] ∧ (n = N) ∧ (d = D)) ?_ ?_
 · intro J hJ Al W I
   rcases Bool.eq_false_or_eq_true q20 with rfl | rfl
   · refine zg I (fun Al W I => have hzW := I.bel.size; (HUp p c xm xe.toNat xe W I.fa.2.1.rd (by omega) (by omega) (by have := oTr hq20; omega)).out) fun Al V Iv _ hB _ kz => ?_
     rintro _ W ⟨p24, c24, rfl, o24, hb⟩
     refine ⟨_, rfl, kz _ _ hb fun I => ?_⟩
     have I := I.rfB 0 o24 (hB _) Iv
     exact a0k I J fun Al W U I => hJ _ _ _ _ _ ⟨U, (xm * 2 ^ xe.toNat), 1, p24, c24, p17, 1, rfl, rfl, rfl, (e2 (oTr hq20)).1, (e2 (oTr hq20)).2⟩ (I.pick [1, 0])
   refine zi I 27 .i64 (0 - xe) ((-xe)) ((by rw [Int.zero_sub]; exact iwo)) fun Al W I => ?_
   refine zg I (fun Al W I => have hzW := I.bel.size; (HP2 (-xe) (-xe).toNat W (by have := oFa hq20; omega) (by omega)).out) fun Al V Iv _ hB _ kz => ?_
   rintro _ W ⟨p28, c28, rfl, o28, hb⟩
   refine ⟨_, rfl, kz _ _ hb fun I => ?_⟩
   have I := I.rfB 0 o28 (hB _) Iv
   exact a0k I J fun Al W U I => hJ _ _ _ _ _ ⟨U, xm, (2 ^ (-xe).toNat), p, c, p28, c28, rfl, rfl, rfl, (e3 (oFa hq20)).1, (e3 (oFa hq20)).2⟩ (I.pick [0, 2])
 rintro _ _ _ ⟨U1, n, d, pn, cn, pd, cd, rfl, rfl, rfl, hn, hd⟩ Al W I
 have K := hA n d hn hd
 have hR := hR n d hn hd
 have kk1 := K.bn
 have kk2 := K.bd
 have kk3 := K.ln
 have kk4 := K.ld
 have kk5 := K.lo
 have kk6 := K.hi
 refine zd [] I fun Al W I => ?_
 refine zk [0, 2] I fun I => ?_
 refine zo 1 I fun I => ?_
 refine zq I (fun Al W I => have hzW := I.bel.size; (HL pn cn n W I.fa.2.1.rd (by omega)).out) fun Al W I => ?_
 refine zo 3 I fun I => ?_
 refine zq I (fun Al W I => have hzW := I.bel.size; (HL pd cd d W I.fa.1.rd (by omega)).out) fun Al W I => ?_
 refine zki 4 I .i64 (((blen n : Nat) : Int) - ((blen d : Nat) : Int)) (((blen n : Int) - blen d)) (iwo) fun I => ?_
 refine zki 5 I .i64 (((blen n : Int) - blen d) - 1) (((blen n : Int) - blen d - 1)) (iwo) fun I => ?_
 refine zki 6 I .i64 (((blen n : Int) - blen d - 1) * 30) ((((blen n : Int) - blen d - 1) * 30)) ((by exact iwo)) fun I => ?_
 refine v0p 7 I _ (fun _ _ _ _ => j0j .i64 ((((blen n : Int) - blen d - 1) * 30)) (100) (((((blen n : Int) - blen d - 1) * 30).tdiv 100)) (by omega) ((by have := o0k (x := (blen n : Int) - blen d - 1) (by omega); exact iwo))) fun I => ?_
 refine zki 8 I .i64 (((((blen n : Int) - blen d - 1) * 30).tdiv 100) - 2) (((((blen n : Int) - blen d - 1) * 30).tdiv 100 - 2)) ((by have := o0k (x := (blen n : Int) - blen d - 1) (by omega); exact iwo)) fun I => ?_
 refine zk [9] I fun I => ?_
 refine i0u I (fun gk fr bx gs => ∃ (U900 : Nat → Value) (u : Int), fr = (.v (.agg #[.bool xg, .slice p (dig B16 xm).length c, .int .i64 xe]) :: .v (.int .i64 (k : Int)) :: .p 0 0 :: .v undef :: .v (Go.Value.string (ByteArray.mk #[])) :: .v (.int .i64 0) :: .p 1 0 :: .p 2 0 :: .v (.int .i64 u) :: .f (.func 145) [.pointer (some ⟨0, 0, none⟩), .pointer (some ⟨0, 0, none⟩)] [some 2, some 1] :: su 5 (sw U900 15 5 (.v (.bool q20) :: sw U900 21 27 (.v undef :: sw U900 49 7 (.v undef :: sw U900 57 32 (.v undef :: sw U900 90 8 (.v undef :: sw U900 99 7 [])))))) : List SV) ∧ bx = [⟨47, [.v (.bool xg), .v (.slice p (dig B16 xm).length c), .v (.int .i64 xe)], false⟩, ⟨29, [.v (.slice pn (dig B16 n).length cn)], false⟩, ⟨29, [.v (.slice pd (dig B16 d).length cd)], false⟩] ∧ gs = [rfF 0 pd cd (dig B16 d), rfF 0 pn cn (dig B16 n)] ∧ (-12100 ≤ u ∧ u ≤ 12100) ∧ (gk = (u - P).toNat)) (((((blen n : Int) - blen d - 1) * 30).tdiv 100 - 2 - P).toNat) (fun Al W U I => ⟨_, ⟨U, _, rfl, rfl, rfl, (by have := o0k (x := (blen n : Int) - blen d - 1) (by omega); omega), rfl⟩, I.pick [0, 1]⟩) ?_
 rintro J0 gk0 _ _ _ ⟨U900, u, rfl, rfl, rfl, hu, hgk⟩ hJ0 Al W I
 by_cases f41 : P < u
 · refine zqd I (fun Al W I => have hzW := I.bel.size; (HO n d u pn pd cn cd _ _ _ _ W (I.box 2 29 _) (I.box 1 29 _) I.fa.1 I.fa.2.1 K (by omega)).out) (dTr f41) fun Al W I => ?_
   refine zi I 43 .i64 (u - 3) ((u - 3)) ((by exact iwo)) fun Al W I => ?_
   exact a0k I J0 fun Al W U I => hJ0 ((u - 3 - P).toNat) _ _ _ _ _ ((by omega)) ⟨U, (u - 3), rfl, rfl, rfl, (by omega), rfl⟩ (I.pick [0, 1])
 refine zqd I (fun Al W I => have hzW := I.bel.size; (HO n d u pn pd cn cd _ _ _ _ W (I.box 2 29 _) (I.box 1 29 _) I.fa.1 I.fa.2.1 K (by omega)).out) (dFa f41) fun Al W I => ?_
 refine i0u I (fun gk fr bx gs => ∃ (U901 : Nat → Value) (v : Int), fr = (.v (.agg #[.bool xg, .slice p (dig B16 xm).length c, .int .i64 xe]) :: .v (.int .i64 (k : Int)) :: .p 0 0 :: .v undef :: .v (Go.Value.string (ByteArray.mk #[])) :: .v (.int .i64 0) :: .p 1 0 :: .p 2 0 :: .v (.int .i64 v) :: .f (.func 145) [.pointer (some ⟨0, 0, none⟩), .pointer (some ⟨0, 0, none⟩)] [some 2, some 1] :: su 5 (sw U901 15 5 (.v (.bool q20) :: sw U901 21 20 (.v (.bool false) :: sw U901 42 14 (.v undef :: sw U901 57 32 (.v undef :: sw U901 90 8 (.v undef :: sw U901 99 7 [])))))) : List SV) ∧ bx = [⟨47, [.v (.bool xg), .v (.slice p (dig B16 xm).length c), .v (.int .i64 xe)], false⟩, ⟨29, [.v (.slice pn (dig B16 n).length cn)], false⟩, ⟨29, [.v (.slice pd (dig B16 d).length cd)], false⟩] ∧ gs = [rfF 0 pd cd (dig B16 d), rfF 0 pn cn (dig B16 n)] ∧ (-12100 ≤ v ∧ v ≤ P) ∧ (gk = (P - v).toNat)) ((P - u).toNat) (fun Al W U I => ⟨_, ⟨U, u, rfl, rfl, rfl, (by omega), rfl⟩, I.pick [0, 1]⟩) ?_
 rintro J1 gk1 _ _ _ ⟨U901, v, rfl, rfl, rfl, hv, hgk2⟩ hJ1 Al W I
 by_cases f47 : P < v + 1
 · refine zi I 46 .i64 (v + 1) ((v + 1)) ((by exact iwo)) fun Al W I => ?_
   refine zqd I (fun Al W I => have hzW := I.bel.size; (HO n d (v + 1) pn pd cn cd _ _ _ _ W (I.box 2 29 _) (I.box 1 29 _) I.fa.1 I.fa.2.1 K (by omega)).out) (dTr f47) fun Al W I => ?_
   have hvP : v = P := by omega
   subst hvP
   refine zi I 52 .i64 ((k : Int) - 1) (((k : Int) - 1)) ((by exact iwo)) fun Al W I => ?_
   obtain ⟨q56, hq56⟩ : ∃ q, decide ((k : Int) - 1 - v ≥ 0) = q := ⟨_, rfl⟩
   refine zi I 54 .i64 (((k : Int) - 1) - v) (((k : Int) - 1 - v)) ((by exact iwo)) fun Al W I => ?_
   refine zb I 56 (decide (((k : Int) - 1 - v) ≥ 0)) (q56) (hq56) fun Al W I => ?_
   refine zcut I (some 2000056) (fun fr bx gs => ∃ (U2 : Nat → Value) (n2 : Nat) (d2 : Nat) (pn2 : Option Addr) (cn2 : Nat) (pd2 : Option Addr) (cd2 : Nat), fr = (.v (.agg #[.bool xg, .slice p (dig B16 xm).length c, .int .i64 xe]) :: .v (.int .i64 (k : Int)) :: .p 0 0 :: .v undef :: .v (Go.Value.string (ByteArray.mk #[])) :: .v (.int .i64 0) :: .p 1 0 :: .p 2 0 :: .v (.int .i64 v) :: .f (.func 145) [.pointer (some ⟨0, 0, none⟩), .pointer (some ⟨0, 0, none⟩)] [some 2, some 1] :: .v (.int .i64 ((k : Int) - 1 - v)) :: su 4 (sw U2 15 5 (.v (.bool q20) :: sw U2 21 20 (.v (.bool false) :: sw U2 42 6 (.v (.bool false) :: sw U2 49 7 (.v (.bool q56) :: sw U2 57 32 (.v undef :: sw U2 90 8 (.v undef :: sw U2 99 7 []))))))) : List SV) ∧ bx = [⟨47, [.v (.bool xg), .v (.slice p (dig B16 xm).length c), .v (.int .i64 xe)], false⟩, ⟨29, [.v (.slice pn2 (dig B16 n2).length cn2)], false⟩, ⟨29, [.v (.slice pd2 (dig B16 d2).length cd2)], false⟩] ∧ gs = [rfF 0 pd2 cd2 (dig B16 d2), rfF 0 pn2 cn2 (dig B16 n2)] ∧ (n2 = n10 n ((k : Int) - 1 - v)) ∧ (d2 = d10 d ((k : Int) - 1 - v))) ?_ ?_
   · intro J hJ Al W I
     rcases Bool.eq_false_or_eq_true q56 with rfl | rfl
     · refine zcut I none (fun fr bx gs => ∃ (U3 : Nat → Value) (p60 : Option Addr) (c60 : Nat), fr = (.v (.agg #[.bool xg, .slice p (dig B16 xm).length c, .int .i64 xe]) :: .v (.int .i64 (k : Int)) :: .p 0 0 :: .v undef :: .v (Go.Value.string (ByteArray.mk #[])) :: .v (.int .i64 0) :: .p 1 0 :: .p 2 0 :: .v (.int .i64 v) :: .f (.func 145) [.pointer (some ⟨0, 0, none⟩), .pointer (some ⟨0, 0, none⟩)] [some 2, some 1] :: .v (.int .i64 ((k : Int) - 1 - v)) :: su 4 (sw U3 15 5 (.v (.bool q20) :: sw U3 21 20 (.v (.bool false) :: sw U3 42 6 (.v (.bool false) :: sw U3 49 7 (.v (.bool true) :: sw U3 57 32 (.v undef :: sw U3 90 8 (.v undef :: sw U3 99 7 []))))))) : List SV) ∧ bx = [⟨47, [.v (.bool xg), .v (.slice p (dig B16 xm).length c), .v (.int .i64 xe)], false⟩, ⟨29, [.v (.slice p60 (dig B16 (n * 10 ^ ((k : Int) - 1 - v).toNat)).length c60)], false⟩, ⟨29, [.v (.slice pd (dig B16 d).length cd)], false⟩] ∧ gs = [rfF 0 p60 c60 (dig B16 (n * 10 ^ ((k : Int) - 1 - v).toNat)), rfF 0 pd cd (dig B16 d), rfF 0 pn cn (dig B16 n)]) ?_ ?_
       · intro J hJ Al W I
         refine zd [1] I fun Al W I => ?_
         refine zk [1] I fun I => ?_
         refine zo2 0 2 I (fun I => ?_) (fun I => ?_)
         · refine zn I fun Al W I => ?_
           refine zo 2 I fun I => ?_
           refine zg I (fun Al W I => have hzW := I.bel.size; (HPw ((k : Int) - 1 - v) ((k : Int) - 1 - v).toNat W (by have := oTr hq56; omega) (by omega)).out) fun Al V Iv _ hB _ kz => ?_
           rintro _ W ⟨p59, c59, rfl, o59, hb⟩
           refine ⟨_, rfl, kz _ _ hb fun I => ?_⟩
           have I := I.rfB 0 o59 (hB _) Iv
           refine zo 3 I fun I => ?_
           refine zg I (fun Al W I => have hzW := I.bel.size; (HT pn p59 cn c59 n (10 ^ ((k : Int) - 1 - v).toNat) W I.fa.2.2.1.rd I.fa.1.rd (by omega) (by have := hlt (show ((k : Int) - 1 - v).toNat ≤ 100000 by omega); omega)).out) fun Al V Iv _ hB _ kz => ?_
           rintro _ W ⟨p60, c60, rfl, o60, hb⟩
           refine ⟨_, rfl, kz _ _ hb fun I => ?_⟩
           have I := I.rfB 0 o60 (hB _) Iv
           refine zo 4 I fun I => ?_
           refine zn I fun Al W I => ?_
           exact a0k I J fun Al W U I => hJ _ _ _ _ _ ⟨U, p60, c60, rfl, rfl, rfl⟩ (I.pick [0, 2, 3])
         refine zg I (fun Al W I => have hzW := I.bel.size; (HPw ((k : Int) - 1 - v) ((k : Int) - 1 - v).toNat W (by have := oTr hq56; omega) (by omega)).out) fun Al V Iv _ hB _ kz => ?_
         rintro _ W ⟨p59, c59, rfl, o59, hb⟩
         refine ⟨_, rfl, kz _ _ hb fun I => ?_⟩
         have I := I.rfB 0 o59 (hB _) Iv
         refine zo 0 I fun I => ?_
         refine zn I fun Al W I => ?_
         refine zo 3 I fun I => ?_
         refine zg I (fun Al W I => have hzW := I.bel.size; (HT pn p59 cn c59 n (10 ^ ((k : Int) - 1 - v).toNat) W I.fa.2.2.1.rd I.fa.1.rd (by omega) (by have := hlt (show ((k : Int) - 1 - v).toNat ≤ 100000 by omega); omega)).out) fun Al V Iv _ hB _ kz => ?_
         rintro _ W ⟨p60, c60, rfl, o60, hb⟩
         refine ⟨_, rfl, kz _ _ hb fun I => ?_⟩
         have I := I.rfB 0 o60 (hB _) Iv
         refine zo 4 I fun I => ?_
         refine zn I fun Al W I => ?_
         exact a0k I J fun Al W U I => hJ _ _ _ _ _ ⟨U, p60, c60, rfl, rfl, rfl⟩ (I.pick [0, 2, 3])
       rintro _ _ _ ⟨U3, p60, c60, rfl, rfl, rfl⟩ Al W I
       exact a0k I J fun Al W U I => hJ _ _ _ _ _ ⟨U, (n * 10 ^ ((k : Int) - 1 - v).toNat), d, p60, c60, pd, cd, rfl, rfl, rfl, rfl, (by have := oTr hq56; unfold d10; rw [show (-((k : Int) - 1 - v)).toNat = 0 by omega, Nat.pow_zero, Nat.mul_one])⟩ (I.pick [1, 0])
     refine zcut I none (fun fr bx gs => ∃ (U3 : Nat → Value) (p65 : Option Addr) (c65 : Nat), fr = (.v (.agg #[.bool xg, .slice p (dig B16 xm).length c, .int .i64 xe]) :: .v (.int .i64 (k : Int)) :: .p 0 0 :: .v undef :: .v (Go.Value.string (ByteArray.mk #[])) :: .v (.int .i64 0) :: .p 1 0 :: .p 2 0 :: .v (.int .i64 v) :: .f (.func 145) [.pointer (some ⟨0, 0, none⟩), .pointer (some ⟨0, 0, none⟩)] [some 2, some 1] :: .v (.int .i64 ((k : Int) - 1 - v)) :: su 4 (sw U3 15 5 (.v (.bool q20) :: sw U3 21 20 (.v (.bool false) :: sw U3 42 6 (.v (.bool false) :: sw U3 49 7 (.v (.bool false) :: sw U3 57 32 (.v undef :: sw U3 90 8 (.v undef :: sw U3 99 7 []))))))) : List SV) ∧ bx = [⟨47, [.v (.bool xg), .v (.slice p (dig B16 xm).length c), .v (.int .i64 xe)], false⟩, ⟨29, [.v (.slice pn (dig B16 n).length cn)], false⟩, ⟨29, [.v (.slice p65 (dig B16 (d * 10 ^ (-((k : Int) - 1 - v)).toNat)).length c65)], false⟩] ∧ gs = [rfF 0 p65 c65 (dig B16 (d * 10 ^ (-((k : Int) - 1 - v)).toNat)), rfF 0 pd cd (dig B16 d), rfF 0 pn cn (dig B16 n)]) ?_ ?_
     · intro J hJ Al W I
       refine zd [2] I fun Al W I => ?_
       refine zk [1] I fun I => ?_
       refine zki 2 I .i64 (0 - ((k : Int) - 1 - v)) ((-((k : Int) - 1 - v))) ((by rw [Int.zero_sub]; exact iwo)) fun I => ?_
       refine zo2 0 3 I (fun I => ?_) (fun I => ?_)
       · refine zn I fun Al W I => ?_
         refine zo 3 I fun I => ?_
         refine zg I (fun Al W I => have hzW := I.bel.size; (HPw (-((k : Int) - 1 - v)) (-((k : Int) - 1 - v)).toNat W (by have := oFa hq56; omega) (by omega)).out) fun Al V Iv _ hB _ kz => ?_
         rintro _ W ⟨p64, c64, rfl, o64, hb⟩
         refine ⟨_, rfl, kz _ _ hb fun I => ?_⟩
         have I := I.rfB 0 o64 (hB _) Iv
         refine zo 4 I fun I => ?_
         refine zg I (fun Al W I => have hzW := I.bel.size; (HT pd p64 cd c64 d (10 ^ (-((k : Int) - 1 - v)).toNat) W I.fa.2.1.rd I.fa.1.rd (by omega) (by have := hlt (show (-((k : Int) - 1 - v)).toNat ≤ 100000 by omega); omega)).out) fun Al V Iv _ hB _ kz => ?_
         rintro _ W ⟨p65, c65, rfl, o65, hb⟩
         refine ⟨_, rfl, kz _ _ hb fun I => ?_⟩
         have I := I.rfB 0 o65 (hB _) Iv
         refine zo 5 I fun I => ?_
         refine zn I fun Al W I => ?_
         exact a0k I J fun Al W U I => hJ _ _ _ _ _ ⟨U, p65, c65, rfl, rfl, rfl⟩ (I.pick [0, 2, 3])
       refine zg I (fun Al W I => have hzW := I.bel.size; (HPw (-((k : Int) - 1 - v)) (-((k : Int) - 1 - v)).toNat W (by have := oFa hq56; omega) (by omega)).out) fun Al V Iv _ hB _ kz => ?_
       rintro _ W ⟨p64, c64, rfl, o64, hb⟩
       refine ⟨_, rfl, kz _ _ hb fun I => ?_⟩
       have I := I.rfB 0 o64 (hB _) Iv
       refine zo 0 I fun I => ?_
       refine zn I fun Al W I => ?_
       refine zo 4 I fun I => ?_
       refine zg I (fun Al W I => have hzW := I.bel.size; (HT pd p64 cd c64 d (10 ^ (-((k : Int) - 1 - v)).toNat) W I.fa.2.1.rd I.fa.1.rd (by omega) (by have := hlt (show (-((k : Int) - 1 - v)).toNat ≤ 100000 by omega); omega)).out) fun Al V Iv _ hB _ kz => ?_
       rintro _ W ⟨p65, c65, rfl, o65, hb⟩
       refine ⟨_, rfl, kz _ _ hb fun I => ?_⟩
       have I := I.rfB 0 o65 (hB _) Iv
       refine zo 5 I fun I => ?_
       refine zn I fun Al W I => ?_
       exact a0k I J fun Al W U I => hJ _ _ _ _ _ ⟨U, p65, c65, rfl, rfl, rfl⟩ (I.pick [0, 2, 3])
     rintro _ _ _ ⟨U3, p65, c65, rfl, rfl, rfl⟩ Al W I
     exact a0k I J fun Al W U I => hJ _ _ _ _ _ ⟨U, n, (d * 10 ^ (-((k : Int) - 1 - v)).toNat), pn, cn, p65, c65, rfl, rfl, rfl, (by have := oFa hq56; unfold n10; rw [show ((k : Int) - 1 - v).toNat = 0 by omega, Nat.pow_zero, Nat.mul_one]), rfl⟩ (I.pick [0, 2])
   rintro _ _ _ ⟨U2, n2, d2, pn2, cn2, pd2, cd2, rfl, rfl, rfl, hn2, hd2⟩ Al W I
   have hln : (dig B16 n2).length ≤ 200000 := by rw [hn2]; have := b0h a0g n (10 ^ ((k : Int) - 1 - v).toNat); have := hlt (show ((k : Int) - 1 - v).toNat ≤ 100000 by omega); unfold n10; omega
   have hld : (dig B16 d2).length ≤ 200000 := by rw [hd2]; have := b0h a0g d (10 ^ (-((k : Int) - 1 - v)).toNat); have := hlt (show (-((k : Int) - 1 - v)).toNat ≤ 100000 by omega); unfold d10; omega
   have hd0 : 0 < d2 := by rw [hd2]; exact n0o K.d0 _
   have hq0 : 0 < n2 / d2 := by rw [hn2, hd2]; exact Nat.lt_of_lt_of_le (c0h (k - 1)) ((h0v K.d0 _ _).2 ((K.p.iff _).2 (by omega)))
   have hql : (dig B16 (n2 / d2)).length ≤ 200000 := Nat.le_trans (a0i a0g (Nat.div_le_self _ _)) hln
   have hrl : (dig B16 (n2 % d2)).length ≤ 200000 := Nat.le_trans (a0i a0g (Nat.mod_le _ _)) hln
   have hdT : dT n d ((k : Int) - 1 - v) = n2 / d2 + if upT n d ((k : Int) - 1 - v) then 1 else 0 := by rw [hn2, hd2]; rfl
   have hupT : upT n d ((k : Int) - 1 - v) = decide (0 < cmpN (n2 % d2 * 2) d2 ∨ (cmpN (n2 % d2 * 2) d2 = 0 ∧ n2 / d2 % 2 = 1)) := by rw [hn2, hd2]; unfold upT; rw [Bool.decide_or, Bool.decide_and]; rfl
   generalize upT n d ((k : Int) - 1 - v) = uT at *
   refine zg I (fun Al W I => have hzW := I.bel.size; (HI pn2 pd2 cn2 cd2 n2 d2 W I.fa.2.1.rd I.fa.1.rd (by omega) (by omega) hd0).out) fun Al V Iv _ hB _ kz => ?_
   rintro _ W ⟨p69, c69, q69, d69, rfl, o69, r69, hb⟩
   refine ⟨_, rfl, kz _ _ hb fun I => ?_⟩
   have I := I.rfB 0 o69 (hB _) Iv
   have I := I.rfB 0 r69 (hB _) Iv
   refine zd [] I fun Al W I => ?_
   refine zk [0, 3] I fun I => ?_
   refine zo 1 I fun I => ?_
   refine zlv I 73 2 3 (dig B16 2) i0f fun Al W p73 I => ?_
   have I := I.rebase 0 (by omega)
   refine zo 2 I fun I => ?_
   refine zg I (fun Al W I => have hzW := I.bel.size; (HT q69 p73 d69 1 (n2 % d2) 2 W I.fa.2.1.rd I.fa.1.rd (by omega) (by omega)).out) fun Al V Iv _ hB _ kz => ?_
   rintro _ W ⟨p74, c74, rfl, o74, hb⟩
   refine ⟨_, rfl, kz _ _ hb fun I => ?_⟩
   have I := I.rfB 0 o74 (hB _) Iv
   refine zo 4 I fun I => ?_
   refine zq I (fun Al W I => have hzW := I.bel.size; (HC p74 pd2 c74 cd2 (n2 % d2 * 2) d2 W I.fa.1.rd I.fa.2.2.2.2.1.rd (by have := b0h a0g (n2 % d2) 2; omega) (by omega)).out) fun Al W I => ?_
   refine zk [5] I fun I => ?_
   refine zcut I (some 3000017) (fun fr bx gs => ∃ (U3 : Nat → Value) (up : Bool), fr = (.v (.agg #[.bool xg, .slice p (dig B16 xm).length c, .int .i64 xe]) :: .v (.int .i64 (k : Int)) :: .p 0 0 :: .v undef :: .v (Go.Value.string (ByteArray.mk #[])) :: .v (.int .i64 0) :: .p 1 0 :: .p 2 0 :: .v (.int .i64 v) :: .f (.func 145) [.pointer (some ⟨0, 0, none⟩), .pointer (some ⟨0, 0, none⟩)] [some 2, some 1] :: .v (.int .i64 ((k : Int) - 1 - v)) :: .v (.slice p69 (dig B16 (n2 / d2)).length c69) :: .v (.slice q69 (dig B16 (n2 % d2)).length d69) :: .v (.int .i64 (cmpN (n2 % d2 * 2) d2)) :: .v undef :: sw U3 15 5 (.v (.bool q20) :: sw U3 21 20 (.v (.bool false) :: sw U3 42 6 (.v (.bool false) :: sw U3 49 7 (.v (.bool q56) :: sw U3 57 32 (.v (.bool up) :: sw U3 90 8 (.v undef :: sw U3 99 7 [])))))) : List SV) ∧ bx = [⟨47, [.v (.bool xg), .v (.slice p (dig B16 xm).length c), .v (.int .i64 xe)], false⟩, ⟨29, [.v (.slice pn2 (dig B16 n2).length cn2)], false⟩, ⟨29, [.v (.slice pd2 (dig B16 d2).length cd2)], false⟩] ∧ gs = [rfF 0 p74 c74 (dig B16 (n2 % d2 * 2)), rfF 0 p73 1 (dig B16 2), rfF 0 q69 d69 (dig B16 (n2 % d2)), rfF 0 p69 c69 (dig B16 (n2 / d2)), rfF 0 pd2 cd2 (dig B16 d2), rfF 0 pn2 cn2 (dig B16 n2)] ∧ (up = uT)) ?_ ?_
   · intro J hJ Al W I
     rcases Bool.eq_false_or_eq_true (decide ((cmpN (n2 % d2 * 2) d2) > 0)) with f78 | f78
     · refine zb I 78 (decide ((cmpN (n2 % d2 * 2) d2) > 0)) (true) (f78) fun Al W I => ?_
       exact a0k I J fun Al W U I => hJ _ _ _ _ _ ⟨U, true, rfl, rfl, rfl, (by rw [hupT]; symm; exact dTr (.inl (oTr f78)))⟩ (I.pick [0, 1, 2, 3, 4, 5])
     refine zb I 78 (decide ((cmpN (n2 % d2 * 2) d2) > 0)) (false) (f78) fun Al W I => ?_
     rcases Bool.eq_false_or_eq_true ((cmpN (n2 % d2 * 2) d2) == 0) with f81 | f81
     · refine zb I 81 ((cmpN (n2 % d2 * 2) d2) == 0) (true) (f81) fun Al W I => ?_
       refine zx I 84 (fun _ => .pointer (some (at_ p69 0))) (fun Al W I => (f0s (m := 0) (n := (dig B16 (n2 / d2)).length) (c := c69) tvNn I.fa.2.2.2.1.rd.solid (by have := a0f a0g (n2 / d2); omega))) fun Al W I => ?_
       refine zx I 85 (fun _ => .int .i64 ((dg (dig B16 (n2 / d2)) 0 : Nat) : Int)) (fun Al W I => (p0r I.fa.2.2.2.1.rd r1p (by have := a0f a0g (n2 / d2); omega))) fun Al W I => ?_
       refine zbin I 86 _ (fun _ _ _ _ _ => q0w .i64 ((dg (dig B16 (n2 / d2)) 0 : Nat) : Int) (2) (((n2 / d2 % 2 : Nat) : Int)) (by omega) ((by exact n1z _))) fun Al W I => ?_
       rcases Bool.eq_false_or_eq_true (((n2 / d2 % 2 : Nat) : Int) == 1) with f87 | f87
       · refine zb I 87 (((n2 / d2 % 2 : Nat) : Int) == 1) (true) (f87) fun Al W I => ?_
         exact a0k I J fun Al W U I => hJ _ _ _ _ _ ⟨U, true, rfl, rfl, rfl, (by rw [hupT]; symm; exact dTr (.inr ⟨beq_iff_eq.1 f81, by have := beq_iff_eq.1 f87; omega⟩))⟩ (I.pick [0, 1, 2, 3, 4, 5])
       refine zb I 87 (((n2 / d2 % 2 : Nat) : Int) == 1) (false) (f87) fun Al W I => ?_
       exact a0k I J fun Al W U I => hJ _ _ _ _ _ ⟨U, false, rfl, rfl, rfl, (by rw [hupT]; symm; exact dFa (fun h => h.elim (oFa f78) (fun h => bnF f87 (by have := h.2; omega))))⟩ (I.pick [0, 1, 2, 3, 4, 5])
     refine zb I 81 ((cmpN (n2 % d2 * 2) d2) == 0) (false) (f81) fun Al W I => ?_
     exact a0k I J fun Al W U I => hJ _ _ _ _ _ ⟨U, false, rfl, rfl, rfl, (by rw [hupT]; symm; exact dFa (fun h => h.elim (oFa f78) (fun h => bnF f81 h.1)))⟩ (I.pick [0, 1, 2, 3, 4, 5])
   rintro _ _ _ ⟨U3, up, rfl, rfl, rfl, hup⟩ Al W I
   refine zcut I (some 2000089) (fun fr bx gs => ∃ (U4 : Nat → Value) (dd : Nat) (pq : Option Addr) (cq : Nat), fr = (.v (.agg #[.bool xg, .slice p (dig B16 xm).length c, .int .i64 xe]) :: .v (.int .i64 (k : Int)) :: .p 0 0 :: .v undef :: .v (Go.Value.string (ByteArray.mk #[])) :: .v (.int .i64 0) :: .p 1 0 :: .p 2 0 :: .v (.int .i64 v) :: .f (.func 145) [.pointer (some ⟨0, 0, none⟩), .pointer (some ⟨0, 0, none⟩)] [some 2, some 1] :: .v (.int .i64 ((k : Int) - 1 - v)) :: .v (.slice pq (dig B16 dd).length cq) :: .v (.slice q69 (dig B16 (n2 % d2)).length d69) :: .v (.int .i64 (cmpN (n2 % d2 * 2) d2)) :: .v undef :: sw U4 15 5 (.v (.bool q20) :: sw U4 21 20 (.v (.bool false) :: sw U4 42 6 (.v (.bool false) :: sw U4 49 7 (.v (.bool q56) :: sw U4 57 32 (.v (.bool up) :: sw U4 90 8 (.v undef :: sw U4 99 7 [])))))) : List SV) ∧ bx = [⟨47, [.v (.bool xg), .v (.slice p (dig B16 xm).length c), .v (.int .i64 xe)], false⟩, ⟨29, [.v (.slice pn2 (dig B16 n2).length cn2)], false⟩, ⟨29, [.v (.slice pd2 (dig B16 d2).length cd2)], false⟩] ∧ gs = [rfF 0 pq cq (dig B16 dd), rfF 0 p74 c74 (dig B16 (n2 % d2 * 2)), rfF 0 p73 1 (dig B16 2), rfF 0 q69 d69 (dig B16 (n2 % d2)), rfF 0 pd2 cd2 (dig B16 d2), rfF 0 pn2 cn2 (dig B16 n2)] ∧ (dT n d ((k : Int) - 1 - v) = dd) ∧ ((dig B16 dd).length ≤ 300000)) ?_ ?_
   · intro J hJ Al W I
     rcases Bool.eq_false_or_eq_true up with rfl | rfl
     · refine zlv I 91 1 3 (dig B16 1) g0i fun Al W p91 I => ?_
       have I := I.rebase 0 (by omega)
       refine zg I (fun Al W I => have hzW := I.bel.size; (HPl p69 p91 c69 1 (n2 / d2) 1 W I.fa.2.2.2.2.1.rd I.fa.1.rd (by omega) (by omega)).out) fun Al V Iv _ hB _ kz => ?_
       rintro _ W ⟨p92, c92, rfl, o92, hb⟩
       refine ⟨_, rfl, kz _ _ hb fun I => ?_⟩
       have I := I.rfB 0 o92 (hB _) Iv
       exact a0k I J fun Al W U I => hJ _ _ _ _ _ ⟨U, (n2 / d2 + 1), p92, c92, rfl, rfl, rfl, (by rw [hdT, ← hup, if_pos rfl]), (by have := g0o a0g (n2 / d2) 1; omega)⟩ (I.pick [0, 2, 3, 4, 6, 7])
     exact a0k I J fun Al W U I => hJ _ _ _ _ _ ⟨U, (n2 / d2), p69, c69, rfl, rfl, rfl, (by rw [hdT, ← hup, if_neg Bool.false_ne_true, Nat.add_zero]), (by omega)⟩ (I.pick [3, 0, 1, 2, 4, 5])
   rintro _ _ _ ⟨U4, dd, pq, cq, rfl, rfl, rfl, hdd, hddl⟩ Al W I
   refine zq I (fun Al W I => have hzW := I.bel.size; (HDe pq cq dd W I.fa.1.rd (by omega)).out) fun Al W I => ?_
   rcases Bool.eq_false_or_eq_true (decide ((((a0d (a0r dd)).size : Nat) : Int) > (k : Int))) with f98 | f98
   · refine zb I 98 (decide ((((a0d (a0r dd)).size : Nat) : Int) > (k : Int))) (true) (f98) fun Al W I => ?_
     refine zx I 101 (fun _ => .string (a0d ((a0r dd).take k))) (fun Al W I => (by rw [show (a0r dd).take k = ((a0r dd).take k).drop 0 from rfl, ← h0h (m0r _)]; exact g0l uSt (.inl ⟨rfl, rfl⟩) (.inr rfl) (Nat.zero_le _) (by have := oTr f98; omega))) fun Al W I => ?_
     refine zi I 103 .i64 (v + 1) ((v + 1)) ((by exact iwo)) fun Al W I => ?_
     exact zret I (v := fun Al => .tuple #[.string (a0d ((a0r dd).take k)), .int .i64 (v + 1)]) fun Al W I => ⟨by rw [← hR, K.dec, hdd, if_pos (by have := oTr f98; rw [a0m] at this; omega)], I.below⟩
   refine zb I 98 (decide ((((a0d (a0r dd)).size : Nat) : Int) > (k : Int))) (false) (f98) fun Al W I => ?_
   exact zret I (v := fun Al => .tuple #[.string (a0d (a0r dd)), .int .i64 v]) fun Al W I => ⟨by rw [← hR, K.dec, hdd, if_neg (by have := oFa f98; rw [a0m] at this; omega)], I.below⟩
 refine zi I 46 .i64 (v + 1) ((v + 1)) ((by exact iwo)) fun Al W I => ?_
 refine zqd I (fun Al W I => have hzW := I.bel.size; (HO n d (v + 1) pn pd cn cd _ _ _ _ W (I.box 2 29 _) (I.box 1 29 _) I.fa.1 I.fa.2.1 K (by omega)).out) (dFa f47) fun Al W I => ?_
 refine zi I 50 .i64 (v + 1) ((v + 1)) ((by exact iwo)) fun Al W I => ?_
 exact a0k I J1 fun Al W U I => hJ1 ((P - (v + 1)).toNat) _ _ _ _ _ ((by omega)) ⟨U, (v + 1), rfl, rfl, rfl, (by omega), rfl⟩ (I.pick [0, 1])
theorem o0s (n : Int) (w : World) (h : -100000 < n ∧ n < 100000) : Calls Tryz.prog 147 #[.int .i64 n] w fun en w' => en = .returned (.string (a0d (d0w n))) ∧ Below w.heap.size w w' := by
 have HF := fun N n W h h1 => hi0 (r1j N n h h1 W)
 have HDe := fun p c a W hp hl => hi0 (i0e p _ c a W hp rfl hl)
 have hlen : ∀ a, a < 100000 → (dig B16 a).length ≤ 2 ∧ (a0r a).length ≤ 5 := fun a ha => ⟨by rw [a0e a0g]; unfold B16; omega, (b0e a 5 (by omega)).2 (by omega)⟩
 have l1 := hlen n.toNat (by omega)
 have l2 := hlen (-n).toNat (by omega)
 have e : d0w n = if n < 0 then 45 :: a0r (-n).toNat else a0r n.toNat := rfl
 have I := Inv.start w [] True.intro
 refine a0h [.v (.int .i64 n)] I Tryz.func147 ?_
 rcases Bool.eq_false_or_eq_true (decide (n < 0)) with f4 | f4
 · refine zb I 4 (decide (n < 0)) (true) (f4) fun Al W I => ?_
   refine zi I 6 .i64 (0 - n) ((-n)) ((by rw [Int.zero_sub]; exact iwo)) fun Al W I => ?_
   refine zqr I (fun Al W I => have hzW := I.bel.size; (HF (-n) (-n).toNat W (by have := oTr f4; omega) (by omega)).out) fun Al W p7 c7 I => ?_
   refine zq I (fun Al W I => have hzW := I.bel.size; (HDe p7 c7 (-n).toNat W I.fa.1.rd (by omega)).out) fun Al W I => ?_
   refine zbin I 9 _ (fun _ _ _ _ _ => (c0t [45] (a0r (-n).toNat) (by simp; omega))) fun Al W I => ?_
   exact zret I (v := fun Al => .string (a0d (45 :: a0r (-n).toNat))) fun Al W I => ⟨by rw [e, if_pos (oTr f4)], I.below⟩
 refine zb I 4 (decide (n < 0)) (false) (f4) fun Al W I => ?_
 refine zqr I (fun Al W I => have hzW := I.bel.size; (HF n n.toNat W (by have := oFa f4; omega) (by omega)).out) fun Al W p11 c11 I => ?_
 refine zq I (fun Al W I => have hzW := I.bel.size; (HDe p11 c11 n.toNat W I.fa.1.rd (by omega)).out) fun Al W I => ?_
 exact zret I (v := fun Al => .string (a0d (a0r n.toNat))) fun Al W I => ⟨by rw [e, if_neg (oFa f4)], I.below⟩
theorem m0j (g : Bool) (s : List Nat) (p : Int) (w : World) (hs : Byt s) (h0 : s ≠ []) (hl : s.length ≤ 100) (hp : -100000 < p ∧ p < 100000) :
 Calls Tryz.prog 81 #[.bool g, .string (a0d s), .int .i64 p] w fun en w' => en = .returned (.string (a0d (numT g s p))) ∧ Below w.heap.size w w' := by
 have hz := a0m s
 have h1 := h0h hs 0 1
 have h2 : (a0d s).extract 1 (a0d s).size = a0d (s.drop 1) := by rw [h0h hs, hz, List.take_length]
 have hI := fun W => hi0 (o0s p W hp)
 have hil : (d0w p).length ≤ 6 := by
  have h : (a0r p.natAbs).length ≤ 5 := (b0e _ 5 (by omega)).2 (by omega)
  unfold d0w
  split
  · rw [List.length_cons, show (-p).toNat = p.natAbs by omega]; omega
  · rw [show p.toNat = p.natAbs by omega]; omega
 have hl0 : 0 < s.length := List.length_pos_iff.2 h0
 have ha : (s.take 1).length = 1 := by rw [List.length_take]; omega
 have hb : (s.drop 1).length = s.length - 1 := by rw [List.length_drop]
 have eN : numT g s p = (if g then [45] else []) ++ (s.take 1 ++ ((if 1 < s.length then 46 :: s.drop 1 else []) ++ 101 :: d0w p)) := rfl
 rw [List.drop_zero] at h1
 generalize s.take 1 = a at *
 generalize s.drop 1 = b at *
 generalize d0w p = ip at *
 generalize a0d s = S at *
 obtain ⟨q, hq⟩ : ∃ q, decide ((S.size : Int) > 1) = q := ⟨_, rfl⟩
 have I := Inv.start w [] True.intro
 refine a0h [.v (.bool g), .v (.string S), .v (.int .i64 p)] I Tryz.func81 ?_
 refine zx I 9 (fun _ => .string (a0d a)) (fun Al W I => (by rw [← h1]; exact g0l uSt (.inl ⟨rfl, rfl⟩) (.inr rfl) (Nat.zero_le _) (by omega))) fun Al W I => ?_
 refine zb I 12 (decide ((S.size : Int) > 1)) (q) (hq) fun Al W I => ?_
 refine zcut I (some 2000012) (fun fr bx gs => ∃ (U1 : Nat → Value) (Y : LN), fr = (.v (.bool g) :: .v (.string S) :: .v (.int .i64 p) :: su 3 (.v (Go.Value.string (ByteArray.mk #[])) :: .v (.string (a0d Y)) :: sw U1 8 4 (.v (.bool q) :: sw U1 13 5 (.v undef :: sw U1 19 7 []))) : List SV) ∧ bx = [] ∧ gs = [] ∧ (Y = a ++ (if 1 < s.length then 46 :: b else [])) ∧ (Y.length ≤ 200)) ?_ ?_
 · intro J hJ Al W I
   rcases Bool.eq_false_or_eq_true q with rfl | rfl
   · refine zx I 15 (fun _ => .string (a0d b)) (fun Al W I => (by rw [← h2]; exact g0l uSt (.inr rfl) (.inl ⟨rfl, rfl⟩) (by omega) (Nat.le_refl _))) fun Al W I => ?_
     refine zbin I 16 _ (fun _ _ _ _ _ => (c0t [46] b (by simp; omega))) fun Al W I => ?_
     refine zbin I 17 _ (fun _ _ _ _ _ => (c0t a (46 :: b) (by simp; omega))) fun Al W I => ?_
     exact a0k I J fun Al W U I => hJ _ _ _ _ _ ⟨U, (a ++ 46 :: b), rfl, rfl, rfl, (by rw [if_pos (by have := oTr hq; omega)]), (by rw [List.length_append, List.length_cons]; omega)⟩ (I.pick [])
   exact a0k I J fun Al W U I => hJ _ _ _ _ _ ⟨U, a, rfl, rfl, rfl, (by rw [if_neg (by have := oFa hq; omega), List.append_nil]), (by omega)⟩ (I.pick [])
 rintro _ _ _ ⟨U1, Y, rfl, rfl, rfl, hY, hYl⟩ Al W I
 refine zcut I (some 2000018) (fun fr bx gs => ∃ (U2 : Nat → Value) (X : LN), fr = (.v (.bool g) :: .v (.string S) :: .v (.int .i64 p) :: su 3 (.v (Go.Value.string (ByteArray.mk #[])) :: .v (.string (a0d X)) :: sw U2 8 4 (.v (.bool q) :: sw U2 13 5 (.v (.bool g) :: sw U2 19 7 []))) : List SV) ∧ bx = [] ∧ gs = [] ∧ (X ++ 101 :: ip = numT g s p) ∧ (X.length ≤ 300)) ?_ ?_
 · intro J hJ Al W I
   rcases Bool.eq_false_or_eq_true g with rfl | rfl
   · refine zbin I 20 _ (fun _ _ _ _ _ => (c0t [45] Y (by simp; omega))) fun Al W I => ?_
     exact a0k I J fun Al W U I => hJ _ _ _ _ _ ⟨U, (45 :: Y), rfl, rfl, rfl, (by rw [eN, if_pos rfl, hY]; simp), (by rw [List.length_cons]; omega)⟩ (I.pick [])
   exact a0k I J fun Al W U I => hJ _ _ _ _ _ ⟨U, Y, rfl, rfl, rfl, (by rw [eN, if_neg Bool.false_ne_true, hY]; simp), (by omega)⟩ (I.pick [])
 rintro _ _ _ ⟨U2, X, rfl, rfl, rfl, hX, hXl⟩ Al W I
 refine zbin I 22 _ (fun _ _ _ _ _ => (c0t X [101] (by simp; omega))) fun Al W I => ?_
 refine zq I (fun Al W I => (hI W).out) fun Al W I => ?_
 refine zbin I 25 _ (fun _ _ _ _ _ => (c0t (X ++ [101]) ip (by simp; omega))) fun Al W I => ?_
 exact zret I (v := fun Al => .string (a0d (X ++ [101] ++ ip))) fun Al W I => ⟨by rw [← hX]; simp, I.below⟩
theorem s0m (v : Vr) (p : Option Addr) (c : Nat) (w : World) (hc : 1 ≤ v.cls ∧ v.cls ≤ 5) : Calls Tryz.prog 77 #[.agg #[.int .i64 (v.cls : Int), .bool v.neg, .bool v.x.neg, .slice p (dig B16 v.x.m).length c, .int .i64 v.x.e]] w fun en w' => en = .returned (.string (a0d (e0t v.cls v.neg))) ∧ Below w.heap.size w w' := by
 have hw : ∀ k, v.cls = k → e0t v.cls v.neg = e0t k v.neg := fun k h => by rw [h]
 obtain ⟨k, g, x⟩ := v
 simp only at hc hw ⊢
 have hg : ∀ S : List Nat, k ≠ 2 → S = l0u k → e0t k g = (if g then [45] else []) ++ S := fun S h2 hS => by
  subst hS
  unfold e0t l0u
  rw [if_neg h2]
  congr 1
  by_cases h1 : k = 1
  · rw [if_pos h1, if_pos h1]
  · by_cases h3 : k = 3
    · rw [if_neg h1, if_neg h1, if_pos h3, if_pos h3]
    · by_cases h4 : k = 4
      · rw [if_neg h1, if_neg h1, if_neg h3, if_neg h3, if_pos h4, if_pos h4]
      · rw [if_neg h1, if_neg h1, if_neg h3, if_neg h3, if_neg h4, if_neg h4, if_pos (by omega)]
 have I := Inv.start w [] True.intro
 refine a0h [.v (.agg #[.int .i64 (k : Int), .bool g, .bool x.neg, .slice p (dig B16 x.m).length c, .int .i64 x.e])] I Tryz.func77 ?_
 refine zcut I (some 1000000) (fun fr bx gs => ∃ (U1 : Nat → Value) (S : LN), fr = (.v (.agg #[.int .i64 (k : Int), .bool g, .bool x.neg, .slice p (dig B16 x.m).length c, .int .i64 x.e]) :: .p 0 0 :: .v (U1 2) :: .v (.string (a0d S)) :: .v (U1 4) :: .v (.int .i64 (k : Int)) :: sw U1 6 9 (.v undef :: sw U1 16 3 []) : List SV) ∧ bx = [⟨49, [.v (.int .i64 (k : Int)), .v (.bool g), .v (.bool x.neg), .v (.slice p (dig B16 x.m).length c), .v (.int .i64 x.e)], false⟩] ∧ gs = [] ∧ (k ≠ 2 ∧ S = l0u k ∧ S.length ≤ 8)) ?_ ?_
 · intro J hJ Al W I
   rcases Bool.eq_false_or_eq_true ((k : Int) == 1) with f7 | f7
   · refine zb I 7 ((k : Int) == 1) (true) (f7) fun Al W I => ?_
     exact a0k I J fun Al W U I => hJ _ _ _ _ _ ⟨U, [48], rfl, rfl, rfl, (by have : k = 1 := (by have := beq_iff_eq.1 f7; omega); subst this; exact ⟨by decide, rfl, by decide⟩)⟩ (I.pick [])
   refine zb I 7 ((k : Int) == 1) (false) (f7) fun Al W I => ?_
   rcases Bool.eq_false_or_eq_true ((k : Int) == 3) with f9 | f9
   · refine zb I 9 ((k : Int) == 3) (true) (f9) fun Al W I => ?_
     exact a0k I J fun Al W U I => hJ _ _ _ _ _ ⟨U, [105, 110, 102], rfl, rfl, rfl, (by have : k = 3 := (by have := beq_iff_eq.1 f9; omega); subst this; exact ⟨by decide, rfl, by decide⟩)⟩ (I.pick [])
   refine zb I 9 ((k : Int) == 3) (false) (f9) fun Al W I => ?_
   rcases Bool.eq_false_or_eq_true ((k : Int) == 4) with f11 | f11
   · refine zb I 11 ((k : Int) == 4) (true) (f11) fun Al W I => ?_
     exact a0k I J fun Al W U I => hJ _ _ _ _ _ ⟨U, [110, 111, 110, 101], rfl, rfl, rfl, (by have : k = 4 := (by have := beq_iff_eq.1 f11; omega); subst this; exact ⟨by decide, rfl, by decide⟩)⟩ (I.pick [])
   refine zb I 11 ((k : Int) == 4) (false) (f11) fun Al W I => ?_
   rcases Bool.eq_false_or_eq_true ((k : Int) == 5) with f13 | f13
   · refine zb I 13 ((k : Int) == 5) (true) (f13) fun Al W I => ?_
     exact a0k I J fun Al W U I => hJ _ _ _ _ _ ⟨U, [114, 101, 115, 101, 114, 118, 101, 100], rfl, rfl, rfl, (by have : k = 5 := (by have := beq_iff_eq.1 f13; omega); subst this; exact ⟨by decide, rfl, by decide⟩)⟩ (I.pick [])
   refine zb I 13 ((k : Int) == 5) (false) (f13) fun Al W I => ?_
   refine zret I (v := fun Al => Go.Value.string (ByteArray.mk #[])) fun Al W I => ?_
   (have h2 : k = 2 := (by have := bnF f7; have := bnF f9; have := bnF f11; have := bnF f13; omega); subst h2; exact ⟨rfl, I.below⟩)
 rintro _ _ _ ⟨U1, S, rfl, rfl, rfl, hS⟩ Al W I
 rcases Bool.eq_false_or_eq_true (g) with f15 | f15
 · refine zb I 15 (g) (true) (f15) fun Al W I => ?_
   refine zbin I 17 _ (fun _ _ _ _ _ => (c0t [45] S (by simp; omega))) fun Al W I => ?_
   refine zret I (v := fun Al => .string (a0d (45 :: S))) fun Al W I => ?_
   (rw [hg S hS.1 hS.2.1, f15]; exact ⟨rfl, I.below⟩)
 refine zb I 15 (g) (false) (f15) fun Al W I => ?_
 refine zret I (v := fun Al => .string (a0d S)) fun Al W I => ?_
 (rw [hg S hS.1 hS.2.1, f15]; exact ⟨rfl, I.below⟩)
theorem o0t (r : Vr) (k : Nat) (p : Option Addr) (c b : Nat) (w : World) (hp : Rf w b p c (dig B16 r.x.m)) (F : VrOk r) (hk : 1 ≤ k ∧ k ≤ 60) : Calls Tryz.prog 26 #[.agg #[.int .i64 (r.cls : Int), .bool r.neg, .bool r.x.neg, .slice p (dig B16 r.x.m).length c, .int .i64 r.x.e], .int .i64 (k : Int)] w fun en w' => en = .returned (.string (a0d (j0d r k))) ∧ Below w.heap.size w w' := by
 have HW := fun W => hi0 (s0m r p c W F.c)
 have HD := fun (h : r.cls = 2) b W hp => hi0 (o0l r.x k p c b W hp (F.x2 h).1 F.len ⟨F.lo, F.hi⟩ (by omega))
 have HN := fun (h : r.cls = 2) W => hi0 (by
   have A := h0f (k := k) (F.x2 h).1 F.len hk.1
   have B := s0b (k := k) (F.x2 h).1 F.len ⟨F.lo, F.hi⟩ hk.1
   exact m0j r.neg (numX r.x k).1 (numX r.x k).2 W (m0s A.2.1) (fun h => by have := A.1; rw [h, List.length_nil] at this; omega) (by omega) (by omega))
 have h2 : r.cls = 2 → j0d r k = numT r.neg (numX r.x k).1 (numX r.x k).2 := fun h => by unfold j0d; rw [if_pos h]
 have h3 : r.cls ≠ 2 → j0d r k = e0t r.cls r.neg := fun h => by unfold j0d; rw [if_neg h]
 obtain ⟨wb, hwb⟩ : ∃ wb : Bool, (e0t r.cls r.neg = [] ↔ wb = false) := ⟨decide (r.cls ≠ 2), by rw [c0i]; simp⟩
 generalize j0d r k = R at *
 have I := Inv.start w [rfF b p c (dig B16 r.x.m)] ⟨hp, True.intro⟩
 refine a0h [.v (.agg #[.int .i64 (r.cls : Int), .bool r.neg, .bool r.x.neg, .slice p (dig B16 r.x.m).length c, .int .i64 r.x.e]), .v (.int .i64 (k : Int))] I Tryz.func26 ?_
 refine zq I (fun Al W I => (HW W).out) fun Al W I => ?_
 rcases Bool.eq_false_or_eq_true (wb) with f11 | f11
 · refine zbin I 11 (.bool true) (fun _ _ _ _ W => ((i0s (g0m _ _) hwb)).trans (congrArg (fun z => Result.ok (Value.bool z) W) (show (wb) = true from f11))) fun Al W I => ?_
   refine zret I (v := fun Al => .string (a0d (e0t r.cls r.neg))) fun Al W I => ?_
   first | (rw [h2 hc]; exact ⟨rfl, I.below⟩) | (rw [h3 (fun h => (by have := hwb.1 (c0i.2 h); rw [this] at f11; cases f11))]; exact ⟨rfl, I.below⟩)
 refine zbin I 11 (.bool false) (fun _ _ _ _ W => ((i0s (g0m _ _) hwb)).trans (congrArg (fun z => Result.ok (Value.bool z) W) (show (wb) = false from f11))) fun Al W I => ?_
 have hc : r.cls = 2 := c0i.1 (hwb.2 f11)
 refine zq I (fun Al W I => (HD hc _ W I.fa.1).out) fun Al W I => ?_
 refine zq I (fun Al W I => (HN hc W).out) fun Al W I => ?_
 refine zret I (v := fun Al => .string (a0d (numT r.neg (numX r.x k).1 (numX r.x k).2))) fun Al W I => ?_
 first | (rw [h2 hc]; exact ⟨rfl, I.below⟩) | (rw [h3 (fun h => (by have := hwb.1 (c0i.2 h); rw [this] at f11; cases f11))]; exact ⟨rfl, I.below⟩)
theorem o0u (n : Int) (s : ByteArray) (k : Int) (w : World) (hT : TabW w) (hP : PowW w) : Calls Tryz.prog 6 #[.int .i64 n, .string s, .int .i64 k] w fun en w' => en = .returned (.bool true) ∧ Below w.heap.size w w' := by
 have HB := fun W h h2 => hi0 (s0l W h h2)
 have HP := fun W h h2 => hi0 (f1p n k s W h h2)
 have HO := fun W => hi0 (w0t n s W)
 unfold e0x d0e at HP
 by_cases h0 : b0g n s = 0
 · rw [if_pos h0] at HP
   rw [h0] at HO
   by_cases hk : k < 1 ∨ 60 < k
   · rw [if_pos hk, if_neg (by decide)] at HP
     obtain ⟨q, hq⟩ : ∃ q, decide (k < 1) = q := ⟨_, rfl⟩
     have I := Inv.start w [tabF, powF] ⟨hT, hP, True.intro⟩
     refine a0h [.v (.int .i64 n), .v (.string s), .v (.int .i64 k)] I Tryz.func6 ?_
     refine zq I (fun Al W I => (HP W I.fa.1 I.fa.2.1).out) fun Al W I => ?_
     refine zq I (fun Al W I => (HO W).out) fun Al W I => ?_
     refine zcut I (some 3000003) (fun fr bx gs => ∃ (U1 : Nat → Value) , fr = (.v (.int .i64 n) :: .v (.string s) :: .v (.int .i64 k) :: su 3 (.v (.bool false) :: .v (.string (a0d [])) :: .v (.int .i64 3) :: .v (.int .i64 0) :: .v (Go.Value.string (ByteArray.mk #[])) :: .v undef :: sw U1 12 20 (.v (.bool true) :: .v (U1 33) :: .v undef :: sw U1 35 20 [])) : List SV) ∧ bx = [] ∧ gs = [tabF, powF] ∧ (True)) ?_ ?_
     · intro J hJ Al W I
       rcases Bool.eq_false_or_eq_true (decide (k < 1)) with f27 | f27
       · refine zb I 27 (decide (k < 1)) (true) (f27) fun Al W I => ?_
         exact a0k I J fun Al W U I => hJ _ _ _ _ _ ⟨U, rfl, rfl, rfl, True.intro⟩ (I.pick [0, 1])
       refine zb I 27 (decide (k < 1)) (false) (f27) fun Al W I => ?_
       refine zb I 30 (decide (k > 60)) (true) (dTr (by have := oFa f27; omega)) fun Al W I => ?_
       exact a0k I J fun Al W U I => hJ _ _ _ _ _ ⟨U, rfl, rfl, rfl, True.intro⟩ (I.pick [0, 1])
     rintro _ _ _ ⟨U1, rfl, rfl, rfl, htr⟩ Al W I
     refine zq I (fun Al W I => (HB W I.fa.1 I.fa.2.1).out) fun Al W I => ?_
     refine zbin I 53 _ (fun _ _ _ _ _ => (h0i (s := a0d []) (r := ⟨#[]⟩) (iff_of_true rfl rfl))) fun Al W I => ?_
     exact zrb I
   · rw [if_neg hk, if_pos rfl] at HP
     obtain ⟨hn, hs⟩ := b0l.1 h0
     have HD := fun W => hi0 (o0g n s W hn hs)
     have HPo := fun p c b W hp => hi0 (o0t (refD n s) k.toNat p c b W hp (l0w (s := s) hn).ok (by omega))
     rw [show (k.toNat : Int) = k by omega] at HPo
     rw [show (fmt n).refN (a0s (fmt n) s) = refD n s from rfl] at HD
     generalize j0d (refD n s) k.toNat = R at *
     generalize refD n s = r at *
     generalize (fmt n).neg (a0s (fmt n) s) = g at *
     have I := Inv.start w [tabF, powF] ⟨hT, hP, True.intro⟩
     refine a0h [.v (.int .i64 n), .v (.string s), .v (.int .i64 k)] I Tryz.func6 ?_
     refine zq I (fun Al W I => (HP W I.fa.1 I.fa.2.1).out) fun Al W I => ?_
     refine zq I (fun Al W I => (HO W).out) fun Al W I => ?_
     refine zb I 27 (decide (k < 1)) (false) (dFa (by omega)) fun Al W I => ?_
     refine zb I 30 (decide (k > 60)) (false) (dFa (by omega)) fun Al W I => ?_
     refine zqr I (fun Al W I => (HD W).out) fun Al W p38 c38 I => ?_
     refine zq I (fun Al W I => (HPo p38 c38 _ W I.fa.1).out) fun Al W I => ?_
     refine zq I (fun Al W I => (HB W I.fa.2.1 I.fa.2.2.1).out) fun Al W I => ?_
     refine zbin I 53 _ (fun _ _ _ _ _ => (h0i (s := a0d R) (r := a0d R) (iff_of_true rfl rfl))) fun Al W I => ?_
     exact zrb I
 · rw [if_neg h0, if_neg h0] at HP
   generalize b0g n s = er at *
   have I := Inv.start w [tabF, powF] ⟨hT, hP, True.intro⟩
   refine a0h [.v (.int .i64 n), .v (.string s), .v (.int .i64 k)] I Tryz.func6 ?_
   refine zq I (fun Al W I => (HP W I.fa.1 I.fa.2.1).out) fun Al W I => ?_
   refine zq I (fun Al W I => (HO W).out) fun Al W I => ?_
   refine zb I 24 (er == 0) (false) (bFn h0) fun Al W I => ?_
   refine zb I 34 (er == 0) (false) (bFn h0) fun Al W I => ?_
   refine zq I (fun Al W I => (HB W I.fa.1 I.fa.2.1).out) fun Al W I => ?_
   refine zb I 48 (er == er) (true) (beq_self_eq_true _) fun Al W I => ?_
   refine zbin I 53 _ (fun _ _ _ _ _ => (h0i (s := a0d []) (r := ⟨#[]⟩) (iff_of_true rfl rfl))) fun Al W I => ?_
   exact zrb I
end Go.Proofs.YtbamiajjampgnaaGreatDoor
