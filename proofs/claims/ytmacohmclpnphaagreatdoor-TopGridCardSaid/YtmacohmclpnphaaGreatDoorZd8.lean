/- arith: values that were decoded; results that a format can hold. -/
import Derived.Lib.Strings
import Derived.Lib.Slices
import Derived.Lib.Small
import Derived.Lib.Walk
import Derived.Lib.BitFns
import Derived.Deep.LoopGhost
import Derived.Deep.RegionHeld3
import Derived.Laws.BitsLemmas
import Derived.Test.YtmacohmclpnphaaGreatDoorZd1
import Derived.Test.YtmacohmclpnphaaGreatDoorZd2
import Derived.Test.YtmacohmclpnphaaGreatDoorZd3
import Derived.Test.YtmacohmclpnphaaGreatDoorZd4
import Derived.Test.YtmacohmclpnphaaGreatDoorZd5
import Derived.Test.YtmacohmclpnphaaGreatDoorZd6
import Derived.Test.YtmacohmclpnphaaGreatDoorZd7
set_option maxHeartbeats 8000000
set_option maxRecDepth 100000
namespace Go.Proofs.YtmacohmclpnphaaGreatDoor
open Go.RowKit Go.Slip
structure VrF (f : Fm) (r : Vr) : Prop where
 ok : VrOk r
 inf : r.cls = 3 → f.fam = 1
def refD (n : Int) (s : ByteArray) : Vr := (fmt n).refN (a0w (fmt n) s)
theorem l1f {f : Fm} (G : b0g f) (neg : Bool) {e frac : Nat} (h : e < 2 ^ f.E) : (f.dec neg e frac).p = 0 ∨ (f.g.lo ≤ (f.dec neg e frac).p ∧ (f.dec neg e frac).p ≤ f.g.hi + 1) := by
 have h3 := G.hi1
 have h4 := G.hi2
 have h5 := G.hi3
 have h6 := G.fam
 have gg := (b0s G.g).le
 have e1 := G.e1
 have hE1 : (2 : Nat) ^ 7 ≤ 2 ^ f.E := Nat.pow_le_pow_right (by omega) e1
 unfold Fm.dec
 generalize 2 ^ f.E = T at *
 repeat' split
 all_goals first | exact .inl rfl | (right; simp only; omega)
theorem i1i {f : Fm} (neg : Bool) {e frac : Nat} (h : (f.dec neg e frac).c = 3) : f.fam = 1 := by
 have h : (f.dec neg e frac).cls = 3 := by
  unfold Dc.c at h
  split at h <;> omega
 unfold Fm.dec at h
 split at h
 · simp at h
 · split at h
   · rename_i k
     exact k.1
   · split at h
     · split at h <;> simp at h
     · split at h
       · simp at h
       · split at h
         · simp at h
         · split at h <;> simp at h
theorem b0h {n : Int} {s : ByteArray} (hn : IsFm n) : VrF (fmt n) (refD n s) := by
 have G := b0m hn
 have GG := b0s G.g
 obtain ⟨w1, w2, w3⟩ := n0n G.g
 have he : (fmt n).exp (a0w (fmt n) s) < 2 ^ (fmt n).E := Nat.mod_lt _ (Nat.pow_pos (by omega))
 have hx : (fmt n).frac (a0w (fmt n) s) < 2 ^ (fmt n).F := Nat.mod_lt _ (Nat.pow_pos (by omega))
 have hm := h1l (f := fmt n) ((fmt n).neg (a0w (fmt n) s)) (e := (fmt n).exp (a0w (fmt n) s)) hx
 have hp := l1f G ((fmt n).neg (a0w (fmt n) s)) (frac := (fmt n).frac (a0w (fmt n) s)) he
 have hi := fun h => i1i (f := fmt n) ((fmt n).neg (a0w (fmt n) s)) (e := (fmt n).exp (a0w (fmt n) s)) (frac := (fmt n).frac (a0w (fmt n) s)) h
 have hcls := z0s (fmt n) ((fmt n).neg (a0w (fmt n) s)) ((fmt n).exp (a0w (fmt n) s)) ((fmt n).frac (a0w (fmt n) s))
 have z2 := G.f2
 unfold refD Fm.refN Fm.decN
 generalize (fmt n).dec ((fmt n).neg (a0w (fmt n) s)) ((fmt n).exp (a0w (fmt n) s)) ((fmt n).frac (a0w (fmt n) s)) = D at *
 generalize (fmt n).neg (a0w (fmt n) s) = g at *
 generalize fmt n = f at *
 have hc : 1 ≤ D.c ∧ D.c ≤ 5 := by unfold Dc.c; split <;> omega
 have hml : (dig B32 D.m).length ≤ 3 := a0t hm (by omega)
 have wp := b0l f.g
 have hwp : -17010 ≤ (wid f.g : Int) * D.p ∧ (wid f.g : Int) * D.p ≤ 17010 := by
  rcases hp with h | ⟨h1, h2⟩
  · rw [h, Int.mul_zero]; omega
  · have a1 : (wid f.g : Int) * f.g.lo ≤ wid f.g * D.p := Int.mul_le_mul_of_nonneg_left h1 (by omega)
    have a2 : (wid f.g : Int) * D.p ≤ wid f.g * (f.g.hi + 1) := Int.mul_le_mul_of_nonneg_left h2 (by omega)
    rw [Int.mul_add, Int.mul_one] at a2
    omega
 refine ⟨⟨hc, fun h => ?_, fun h => ?_, ?_, ?_, ?_, ?_⟩, hi⟩
 · have h : ¬ D.c = 2 := h
   unfold Fm.vr
   simp only [if_neg h]
   rfl
 · have h : D.c = 2 := h
   have hm0 := f1r h
   unfold Fm.vr
   simp only [h, if_true]
   obtain ⟨b1, b2⟩ := m0p (g := g) (e := (wid f.g : Int) * D.p) hm0
   exact ⟨b2, by rw [b1]; rfl⟩
 · unfold Fm.vr
   simp only
   split
   · exact g0w _
   · exact .inr rfl
 · unfold Fm.vr
   simp only
   split
   · exact Nat.le_trans (g0h a0b _) (by show (dig B32 D.m).length ≤ _; omega)
   · show (dig B32 0).length ≤ _; rw [a0f]; decide
 · unfold Fm.vr
   simp only
   split
   · have := n0f (⟨g, D.m, wid f.g * D.p⟩ : Dv) (n := 3) hml (lo := -17100) (hi := 17100) (by simp only; omega) (by simp only; omega) (by omega) (by omega)
     omega
   · show (-18000 : Int) ≤ 0; decide
 · unfold Fm.vr
   simp only
   split
   · have := n0f (⟨g, D.m, wid f.g * D.p⟩ : Dv) (n := 3) hml (lo := -17100) (hi := 17100) (by simp only; omega) (by simp only; omega) (by omega) (by omega)
     omega
   · show (0 : Int) ≤ 18000; decide
theorem v0a {n : Int} {s : ByteArray} (h0 : b0c n s = 0) : VRep (fmt n) (decP n s) (refD n s) := by
 obtain ⟨hn, hs⟩ := c0l.1 h0
 have G := b0m hn
 have hd : decP n s = (fmt n).valN (a0w (fmt n) s) := by unfold decP; rw [if_pos h0]
 have he : (fmt n).exp (a0w (fmt n) s) < 2 ^ (fmt n).E := Nat.mod_lt _ (Nat.pow_pos (by omega))
 have hx : (fmt n).frac (a0w (fmt n) s) < 2 ^ (fmt n).F := Nat.mod_lt _ (Nat.pow_pos (by omega))
 have hb := l1z G ((fmt n).neg (a0w (fmt n) s)) he hx ((fmt n).neg (a0w (fmt n) s))
 have hk := d1v (fmt n) ((fmt n).neg (a0w (fmt n) s)) ((fmt n).decN (a0w (fmt n) s))
 have ho := d1x (fmt n) ((fmt n).neg (a0w (fmt n) s)) ((fmt n).decN (a0w (fmt n) s))
 rw [hd]
 exact ⟨rfl, rfl, fun _ => hk, fun h => ho h, hb.1, hb.2.1, hb.2.2⟩
theorem g0s {n : Int} {s : ByteArray} (h0 : b0c n s = 0) {x : Vp} (hx : x.v = decP n s) : AtV (fmt n) x (refD n s) := by
 have F := b0h (s := s) (c0l.1 h0).1
 exact ⟨by rw [hx]; exact v0a h0, F.ok, F.inf⟩
/-! ### Results -/
theorem b1h {f : Fm} (G : b0g f) (x : Dv) (way : Int) : ResF f (f.numM x way).1 := by
 unfold Fm.numM
 split
 · exact i0w G _
 · exact (h0s G (by omega)).1
theorem f1u {f : Fm} (G : b0g f) (x y : Dv) (g h : Bool) (way : Int) : ResF f (f.sumM x y g h way).1 := by
 unfold Fm.sumM
 split
 · exact b1h G _ _
 · split <;> exact i0w G _
theorem p0r {f : Fm} {r : Vr} (h : r.cls = 3) (R : VrF f r) : ResF f r :=
 ⟨by omega, fun k => by omega, fun k => by omega, fun _ => R.inf h, fun k => by omega, fun k => by omega, fun _ => R.ok.x0 (by omega)⟩
theorem r0i {f : Fm} (G : b0g f) {a b : Vr} (A : VrF f a) (B : VrF f b) (way : Int) : ResF f (f.addM a b way).1 := by
 unfold Fm.addM
 split
 · exact b0w G
 · split
   · rename_i h
     split
     · exact b0w G
     · split
       · rename_i h3; exact p0r h3 A
       · rename_i h3; exact p0r (show b.cls = 3 by omega) B
   · exact f1u G _ _ _ _ _
theorem f1v {f : Fm} (G : b0g f) {a b : Vr} (A : a.cls = 3 → f.fam = 1) (B : b.cls = 3 → f.fam = 1) (way : Int) : ResF f (f.mulM a b way).1 := by
 unfold Fm.mulM
 split
 · exact b0w G
 · split
   · rename_i h
     split
     · exact b0w G
     · exact u0v (h.elim A B) _
   · split
     · exact i0w G _
     · exact b1h G _ _
theorem i1j {f : Fm} (G : b0g f) (g : Bool) : ResF f (f.poleM g).1 := by
 unfold Fm.poleM
 simp only
 split
 · rename_i h; exact u0v h _
 · split
   · exact p0o G _
   · exact b0w G
theorem f1w {f : Fm} (G : b0g f) {a b : Vr} (A : a.cls = 3 → f.fam = 1) (B : VrOk b) (way : Int) : ResF f (f.divM a b way).1 := by
 unfold Fm.divM
 have hc := B.c
 split
 · exact b0w G
 · split
   · exact b0w G
   · split
     · rename_i h; exact u0v (A h) _
     · split
       · exact i0w G _
       · split
         · exact i1j G _
         · have := (B.x2 (by omega)).1
           exact (h0s G (by omega)).1
theorem i1k (g : Bool) : VrOk (infM g) := ⟨by show 1 ≤ 3 ∧ 3 ≤ 5; omega, fun _ => rfl, fun h => (by cases h), .inr rfl, by show (dig B32 0).length ≤ _; rw [a0f]; decide, by show (-18000 : Int) ≤ 0; decide, by show (0 : Int) ≤ 18000; decide⟩
theorem v0b {f : Fm} (G : b0g f) {a b c : Vr} (A : a.cls = 3 → f.fam = 1) (B : b.cls = 3 → f.fam = 1) (C : VrF f c) (way : Int) : ResF f (f.fusedM a b c way).1 := by
 unfold Fm.fusedM
 split
 · exact b0w G
 · split
   · rename_i h
     split
     · exact b0w G
     · exact r0i G ⟨i1k _, fun _ => h.elim A B⟩ C way
   · split
     · rename_i h; exact p0r h C
     · exact f1u G _ _ _ _ _
def _root_.Go.Slip.Vr.opp (r : Vr) : Vr := if r.cls ≤ 3 then ⟨r.cls, !r.neg, b0i r.x⟩ else r
theorem i1l {f : Fm} (G : b0g f) {r : Vr} (R : ResF f r) : CanF f r.cls r.neg r.x :=
 ⟨R.c, R.c1, fun h => ⟨a1n G (R.c2 h).1 (R.c2 h).2.2.1, (R.c2 h).2.1, (R.c2 h).2.2.1, (R.c2 h).2.2.2⟩, R.c3, R.c4, R.c5⟩
theorem e1j {n : Int} (hn : IsFm n) {r : Vr} (R : ResF (fmt n) r) : b0c n (strR n r) = 0 ∧ refD n (strR n r) = r := by
 have G := b0m hn
 have C := i1l G R
 have hlt := h1s G (cls := r.cls) (g := r.neg) (d := r.x) (fun h => (C.c2 h).1)
 have hs : (strR n r).size = (fmt n).size := by unfold strR; rw [j0t]; exact h1m _ _ _ _
 refine ⟨c0l.2 ⟨hn, hs⟩, ?_⟩
 have hv := h1u G C
 obtain ⟨q1, q2, q3⟩ := z0u (f := fmt n) (neg := ((fmt n).encP r.cls r.neg r.x).neg) hlt.1 hlt.2
 unfold refD Fm.refN Fm.decN strR Fm.strP
 rw [t0d G hlt.1 hlt.2, q1, q2, q3, hv]
 by_cases h2 : r.cls = 2
 · rw [if_pos h2]
 · rw [if_neg h2, show (⟨false, 0, 0⟩ : Dv) = r.x from (R.x0 h2).symm]
def outS (n way : Int) (L : List ByteArray) (R : Vr × Nat) : ByteArray := if errR n way L = 0 then strR n R.1 else b0a []
def outF (n way : Int) (L : List ByteArray) (R : Vr × Nat) : Nat := if errR n way L = 0 then R.2 else 0
end Go.Proofs.YtmacohmclpnphaaGreatDoor
namespace Go.Slip
open Go.RowKit
def r0j : List (Nat × SV) → Cfg → Cfg
 | [], c => c
 | (i, y) :: l, c => r0j l (k0b i y c)
section
variable {P : Program} {Q : Exit → Act → World → Prop} {E : List Nat} {w0 : World} {A : List Nat} {fs : List PF} {W : World} {c c' : Cfg}
theorem h0x (_ : Inv E w0 A c.bx fs W) (l : List (Nat × SV)) (h1 : ∀ A W, Inv E w0 A (nrm (r0j l c)).bx fs W → G P Q A (nrm (r0j l c)) W)
 (h2 : (∀ A W, Inv E w0 A (nrm (r0j l c)).bx fs W → G P Q A (nrm (r0j l c)) W) → G P Q A c W) : G P Q A c W := h2 h1
theorem zuse (K : ∀ A W, Inv E w0 A c'.bx fs W → G P Q A c' W) (I : Inv E w0 A c.bx fs W) (he : c = c' := by kernel_rfl) : G P Q A c W := by
 subst he
 exact K _ _ I
end
end Go.Slip
namespace Go.Slip
open Go.RowKit
def f1x (i : Nat) (c : Cfg) (A : List Nat) : Option VO :=
 match c.rg with
 | .dr ops _ _ (_ + 1) listed => match ops[i]? with
  | some o => match Region.noSelect ops && Region.free .any ops listed i && (Region.ready .any ops listed).contains i && wnt ops c.fr o with
   | true => match o.op with
    | .indexAddr t x j => some (.ix t (evr A c.fr x) (evr A c.fr j))
    | _ => none
   | false => none
  | none => none
 | _ => none
section
variable {P : Program} {Q : Exit → Act → World → Prop} {E : List Nat} {w0 : World} {A : List Nat} {fs : List PF} {W : World} {c : Cfg}
theorem zkx (i : Nat) (I : Inv E w0 A c.bx fs W) {vo : VO} (v : Value) (hx : ∀ W, vo.sem.run P W = .ok v W) (h : Inv E w0 A (k0b i (.v v) c).bx fs W → G P Q A (k0b i (.v v) c) W)
 (hv : f1x i c A = some vo := by kernel_rfl) (hm : dk1 c.rg c.bx = dk2 c.rg := by kernel_rfl) (hQ : g0j Q := by exact e0k) : G P Q A c W := by
 refine ⟨?_⟩
 have h := (h (by rw [u0d]; exact I)).out
 obtain ⟨cf, cb, rg, ks⟩ := c
 cases rg with
 | off => cases hv
 | pl => cases hv
 | one => cases hv
 | ret => cases hv
 | dr ops A0 m fuel listed =>
  cases fuel with
  | zero => cases hv
  | succ fuel =>
   unfold f1x at hv
   unfold k0b at h
   simp only at hv h
   intro pre
   split at hv
   · rename_i o hi
     rw [hi] at h
     split at hv
     · rename_i h1
       simp only [Bool.and_eq_true] at h1
       obtain ⟨⟨⟨h1, h2⟩, h3⟩, hw⟩ := h1
       split at hv
       · rename_i t x j hop
         simp only [Option.some.injEq] at hv
         subst hv
         have hS : SB A0 m W := y0q I pre hm
         have h : WpH P ops (post P Q ks) (SB A0 m) fuel (listed.setIfInBounds i true) (act A (putO cf o.dst (.v v))) W := h pre
         rw [← d0a] at h
         refine i0o i o.dst v _ hi rfl rfl h1 h2 h3 (fun c a w => e0y (P := P) hQ ks c a o.dst v w) (.inl ⟨by rw [f0k]; exact hw, fun w' _ => ?_⟩) hS h
         rw [c0a]
         unfold execOp
         have := hx w'
         unfold VO.sem at this
         simp only [hop, Sem.run_bind, this, Result.andThen_ok, Sem.run_pure]
       · cases hv
     · cases hv
   · cases hv
end
end Go.Slip
namespace Go.Proofs.YtmacohmclpnphaaGreatDoor
open Go.RowKit Go.Slip
theorem p0s {n : Int} {s t : ByteArray} (h : errL n [s, t] = 0) : b0c n s = 0 ∧ b0c n t = 0 ∧ IsFm n := by
 have h1 := e0n n h s (by simp)
 exact ⟨h1, e0n n h t (by simp), (c0l.1 h1).1⟩
theorem k0y {n : Int} {xs : List Vp} {s t : ByteArray} (h : xs.map (·.v) = [s, t].map (decP n)) : ∃ x y, xs = [x, y] ∧ x.v = decP n s ∧ y.v = decP n t := by
 cases xs with
 | nil => simp at h
 | cons x l =>
  cases l with
  | nil => simp at h
  | cons y l =>
   cases l with
   | nil => simp only [List.map_cons, List.map_nil, List.cons.injEq, and_true] at h; exact ⟨x, y, rfl, h.1, h.2⟩
   | cons _ _ => simp at h
theorem e1k (n way : Int) (s t : ByteArray) (h0 : errL n [s, t] = 0) (hw : 1 ≤ way ∧ way ≤ 5) : t0g n way [s, t] 89 ((fmt n).addM (refD n s) (refD n t) way) := by
 intro xs vs p c base u w hxs hvs oS oL U hT hb
 obtain ⟨hs, ht, hn⟩ := p0s h0
 obtain ⟨x, y, rfl, hx, hy⟩ := k0y hxs
 have ox := oL x (by simp)
 have oy := oL y (by simp)
 have HA := fun W u h1 h2 h3 h4 h5 => hi0 (i1f (fmt n) n way x y (refD n s) (refD n t) base u W h1 h2 h3 h4 (g0s hs hx) (g0s ht hy) (b0m hn) hw h5)
 generalize (fmt n).addM (refD n s) (refD n t) way = R at *
 generalize fmt n = f at *
 subst hvs
 clear oL hx hy hxs h0 hs ht hn
 obtain ⟨r, fl⟩ := R
 have I := Inv.startW w u 182 (uS f n way 0) [g0k base 75 4 p c [s, t].length ([x, y].flatMap Vp.cells), ownF base .u32 141 x.p x.c (dig B32 x.v.d), ownF base .u32 141 y.p y.c (dig B32 y.v.d), tabF] U ⟨oS, ox, oy, hT, True.intro⟩ ⟨fun hf => oS.far U (by kernel_rfl) hf.1 hf.2, fun hf => ox.far U (by kernel_rfl) hf.1 hf.2, fun hf => oy.far U (by kernel_rfl) hf.1 hf.2, fun hf => hT.far U (by kernel_rfl) hf, True.intro⟩
 refine a0g [.p 0 0, .v (.slice p [s, t].length c)] I Tryz.func89 ?_
 refine zd [0, 1] I fun Al W I => ?_
 refine zk [0, 1] I fun I => ?_
 refine zkx 2 I (.pointer (some (at_ p (0 * 4)))) (fun _ => (f0t (m := 0) (n := [s, t].length) (c := c) h0w I.fa.1.solid (by simp))) fun I => ?_
 refine zk [4] I fun I => ?_
 refine zkx 5 I (.pointer (some (at_ p (1 * 4)))) (fun _ => (f0t (m := 1) (n := [s, t].length) (c := c) h0w I.fa.1.solid (by simp))) fun I => ?_
 refine h0x I [(3, .v (.agg #[.int .i64 (x.v.cls : Int), .bool x.v.neg, .slice x.p (dig B32 x.v.d).length x.c, .int .i64 x.v.pow])), (6, .v (.agg #[.int .i64 (y.v.cls : Int), .bool y.v.neg, .slice y.p (dig B32 y.v.d).length y.c, .int .i64 y.v.pow]))] (fun Al W I => ?_) (fun KL7 => ?_)
 · refine zo 7 I fun I => ?_
   refine zge I 0 182 (fun Al W I => have hzW := I.bel.size; (HA W _ (I.box 0 182 _) I.fa.2.1 I.fa.2.2.1 (by omega) I.fa.2.2.2.1).out) fun Al V Iv _ _ kz => ?_
   rintro _ W ⟨v12, hR12, p12, c12, rfl, o12, hO, hB⟩
   refine ⟨_, rfl, kz _ (uS f n way (fl : Int)) _ hO hB fun I => ?_⟩
   have I := I.ownB base o12
   refine zo 8 I fun I => ?_
   refine zn I fun Al W I => ?_
   exact zret I fun Al W I => ⟨v12, hR12, p12, c12, rfl, I.fa.1, I.bel, I.boxE 182 _⟩
 refine h0x I [(3, .v (.agg #[.int .i64 (x.v.cls : Int), .bool x.v.neg, .slice x.p (dig B32 x.v.d).length x.c, .int .i64 x.v.pow]))] (fun Al W I => ?_) (fun KL5 => ?_)
 · refine zo 6 I fun I => ?_
   refine zx I 11 (fun _ => .agg #[.int .i64 (y.v.cls : Int), .bool y.v.neg, .slice y.p (dig B32 y.v.d).length y.c, .int .i64 y.v.pow]) (fun Al W I => (b0t (m := 1 * 4) I.fa.1 d0i y.cells rfl rfl)) fun Al W I => ?_
   exact zuse KL7 I
 refine h0x I [(6, .v (.agg #[.int .i64 (y.v.cls : Int), .bool y.v.neg, .slice y.p (dig B32 y.v.d).length y.c, .int .i64 y.v.pow]))] (fun Al W I => ?_) (fun KL6 => ?_)
 · refine zo 3 I fun I => ?_
   refine zx I 8 (fun _ => .agg #[.int .i64 (x.v.cls : Int), .bool x.v.neg, .slice x.p (dig B32 x.v.d).length x.c, .int .i64 x.v.pow]) (fun Al W I => (b0t (m := 0 * 4) I.fa.1 d0i x.cells rfl rfl)) fun Al W I => ?_
   exact zuse KL7 I
 refine zo2 3 6 I (fun I => ?_) (fun I => ?_)
 · refine zx I 8 (fun _ => .agg #[.int .i64 (x.v.cls : Int), .bool x.v.neg, .slice x.p (dig B32 x.v.d).length x.c, .int .i64 x.v.pow]) (fun Al W I => (b0t (m := 0 * 4) I.fa.1 d0i x.cells rfl rfl)) fun Al W I => ?_
   exact zuse KL5 I
 refine zx I 11 (fun _ => .agg #[.int .i64 (y.v.cls : Int), .bool y.v.neg, .slice y.p (dig B32 y.v.d).length y.c, .int .i64 y.v.pow]) (fun Al W I => (b0t (m := 1 * 4) I.fa.1 d0i y.cells rfl rfl)) fun Al W I => ?_
 exact zuse KL6 I
def c0m (n way : Int) (L : List ByteArray) (R : Vr × Nat) (w : World) (en : Ending) (w' : World) : Prop :=
 (if errR n way L = 0 then en = .returned (.tuple #[.string (strR n R.1), .int .i64 ((R.2 : Nat) : Int), .int .i64 (errR n way L)]) else en = .returned (.tuple #[.string (b0a []), .int .i64 0, .int .i64 (errR n way L)])) ∧ Below w.heap.size w w'
theorem f0o {n way : Int} {L : List ByteArray} (h0 : errR n way L = 0) : IsFm n ∧ errL n L = 0 ∧ 1 ≤ way ∧ way ≤ 5 := by
 have hn : IsFm n := by unfold errR at h0; split at h0; assumption; omega
 unfold errR at h0
 rw [if_pos hn] at h0
 have hL : errL n L = 0 := by split at h0; assumption; contradiction
 rw [if_pos hL] at h0
 exact ⟨hn, hL, by split at h0; assumption; omega⟩
theorem v0c (n way : Int) (s t : ByteArray) (w : World) (hT : TabW w) : Calls Tryz.prog 37 #[.int .i64 n, .string s, .string t, .int .i64 way] w (c0m n way [s, t] ((fmt n).addM (refD n s) (refD n t) way) w) := by
 unfold c0m
 by_cases h0 : errR n way [s, t] = 0
 · obtain ⟨hn, hL, hw⟩ := f0o h0
   have HR := fun b m W h1 h2 h3 => hi0 (n0x n way [s, t] 89 _ b m W h1 h2 (by simp) h3 (fun _ _ => by kernel_rfl) h0 (e1k n way s t hL hw) (r0i (b0m hn) (b0h hn) (b0h hn) way))
   simp only [h0, if_true]
   generalize strR n ((fmt n).addM (refD n s) (refD n t) way).1 = str at *
   generalize ((fmt n).addM (refD n s) (refD n t) way).2 = fl at *
   have I := Inv.start w [tabF] ⟨hT, True.intro⟩
   refine a0g [.v (.int .i64 n), .v (.string s), .v (.string t), .v (.int .i64 way)] I Tryz.func37 ?_
   refine zq I (fun Al W I => (HR _ 2 W (I.box 0 9 _) rfl I.fa.1).out) fun Al W I => ?_
   exact zrb I
 · have HR := fun b m W h1 h2 h3 => hi0 (k0k n way [s, t] 89 b m W h1 h2 (by simp) h3 h0)
   simp only [if_neg h0]
   generalize errR n way [s, t] = er at *
   have I := Inv.start w [tabF] ⟨hT, True.intro⟩
   refine a0g [.v (.int .i64 n), .v (.string s), .v (.string t), .v (.int .i64 way)] I Tryz.func37 ?_
   refine zq I (fun Al W I => (HR _ 2 W (I.box 0 9 _) rfl I.fa.1).out) fun Al W I => ?_
   exact zrb I
theorem e1l (n way : Int) (s t : ByteArray) (h0 : errL n [s, t] = 0) (hw : 1 ≤ way ∧ way ≤ 5) : t0g n way [s, t] 93 ((fmt n).mulM (refD n s) (refD n t) way) := by
 intro xs vs p c base u w hxs hvs oS oL U hT hb
 obtain ⟨hs, ht, hn⟩ := p0s h0
 obtain ⟨x, y, rfl, hx, hy⟩ := k0y hxs
 have ox := oL x (by simp)
 have oy := oL y (by simp)
 have HA := fun W u h1 h2 h3 h4 h5 => hi0 (m1d (fmt n) n way x y (refD n s) (refD n t) base u W h1 h2 h3 h4 (g0s hs hx) (g0s ht hy) (b0m hn) hw h5)
 generalize (fmt n).mulM (refD n s) (refD n t) way = R at *
 generalize fmt n = f at *
 subst hvs
 clear oL hx hy hxs h0 hs ht hn
 obtain ⟨r, fl⟩ := R
 have I := Inv.startW w u 182 (uS f n way 0) [g0k base 75 4 p c [s, t].length ([x, y].flatMap Vp.cells), ownF base .u32 141 x.p x.c (dig B32 x.v.d), ownF base .u32 141 y.p y.c (dig B32 y.v.d), tabF] U ⟨oS, ox, oy, hT, True.intro⟩ ⟨fun hf => oS.far U (by kernel_rfl) hf.1 hf.2, fun hf => ox.far U (by kernel_rfl) hf.1 hf.2, fun hf => oy.far U (by kernel_rfl) hf.1 hf.2, fun hf => hT.far U (by kernel_rfl) hf, True.intro⟩
 refine a0g [.p 0 0, .v (.slice p [s, t].length c)] I Tryz.func93 ?_
 refine zd [0, 1] I fun Al W I => ?_
 refine zk [0, 1] I fun I => ?_
 refine zkx 2 I (.pointer (some (at_ p (0 * 4)))) (fun _ => (f0t (m := 0) (n := [s, t].length) (c := c) h0w I.fa.1.solid (by simp))) fun I => ?_
 refine zk [4] I fun I => ?_
 refine zkx 5 I (.pointer (some (at_ p (1 * 4)))) (fun _ => (f0t (m := 1) (n := [s, t].length) (c := c) h0w I.fa.1.solid (by simp))) fun I => ?_
 refine h0x I [(3, .v (.agg #[.int .i64 (x.v.cls : Int), .bool x.v.neg, .slice x.p (dig B32 x.v.d).length x.c, .int .i64 x.v.pow])), (6, .v (.agg #[.int .i64 (y.v.cls : Int), .bool y.v.neg, .slice y.p (dig B32 y.v.d).length y.c, .int .i64 y.v.pow]))] (fun Al W I => ?_) (fun KL7 => ?_)
 · refine zo 7 I fun I => ?_
   refine zge I 0 182 (fun Al W I => have hzW := I.bel.size; (HA W _ (I.box 0 182 _) I.fa.2.1 I.fa.2.2.1 (by omega) I.fa.2.2.2.1).out) fun Al V Iv _ _ kz => ?_
   rintro _ W ⟨v12, hR12, p12, c12, rfl, o12, hO, hB⟩
   refine ⟨_, rfl, kz _ (uS f n way (fl : Int)) _ hO hB fun I => ?_⟩
   have I := I.ownB base o12
   refine zo 8 I fun I => ?_
   refine zn I fun Al W I => ?_
   exact zret I fun Al W I => ⟨v12, hR12, p12, c12, rfl, I.fa.1, I.bel, I.boxE 182 _⟩
 refine h0x I [(3, .v (.agg #[.int .i64 (x.v.cls : Int), .bool x.v.neg, .slice x.p (dig B32 x.v.d).length x.c, .int .i64 x.v.pow]))] (fun Al W I => ?_) (fun KL5 => ?_)
 · refine zo 6 I fun I => ?_
   refine zx I 11 (fun _ => .agg #[.int .i64 (y.v.cls : Int), .bool y.v.neg, .slice y.p (dig B32 y.v.d).length y.c, .int .i64 y.v.pow]) (fun Al W I => (b0t (m := 1 * 4) I.fa.1 d0i y.cells rfl rfl)) fun Al W I => ?_
   exact zuse KL7 I
 refine h0x I [(6, .v (.agg #[.int .i64 (y.v.cls : Int), .bool y.v.neg, .slice y.p (dig B32 y.v.d).length y.c, .int .i64 y.v.pow]))] (fun Al W I => ?_) (fun KL6 => ?_)
 · refine zo 3 I fun I => ?_
   refine zx I 8 (fun _ => .agg #[.int .i64 (x.v.cls : Int), .bool x.v.neg, .slice x.p (dig B32 x.v.d).length x.c, .int .i64 x.v.pow]) (fun Al W I => (b0t (m := 0 * 4) I.fa.1 d0i x.cells rfl rfl)) fun Al W I => ?_
   exact zuse KL7 I
 refine zo2 3 6 I (fun I => ?_) (fun I => ?_)
 · refine zx I 8 (fun _ => .agg #[.int .i64 (x.v.cls : Int), .bool x.v.neg, .slice x.p (dig B32 x.v.d).length x.c, .int .i64 x.v.pow]) (fun Al W I => (b0t (m := 0 * 4) I.fa.1 d0i x.cells rfl rfl)) fun Al W I => ?_
   exact zuse KL5 I
 refine zx I 11 (fun _ => .agg #[.int .i64 (y.v.cls : Int), .bool y.v.neg, .slice y.p (dig B32 y.v.d).length y.c, .int .i64 y.v.pow]) (fun Al W I => (b0t (m := 1 * 4) I.fa.1 d0i y.cells rfl rfl)) fun Al W I => ?_
 exact zuse KL6 I
theorem e1m (n way : Int) (s t : ByteArray) (w : World) (hT : TabW w) : Calls Tryz.prog 39 #[.int .i64 n, .string s, .string t, .int .i64 way] w (c0m n way [s, t] ((fmt n).mulM (refD n s) (refD n t) way) w) := by
 unfold c0m
 by_cases h0 : errR n way [s, t] = 0
 · obtain ⟨hn, hL, hw⟩ := f0o h0
   have HR := fun b m W h1 h2 h3 => hi0 (n0x n way [s, t] 93 _ b m W h1 h2 (by simp) h3 (fun _ _ => by kernel_rfl) h0 (e1l n way s t hL hw) (f1v (b0m hn) (b0h hn).inf (b0h hn).inf way))
   simp only [h0, if_true]
   generalize strR n ((fmt n).mulM (refD n s) (refD n t) way).1 = str at *
   generalize ((fmt n).mulM (refD n s) (refD n t) way).2 = fl at *
   have I := Inv.start w [tabF] ⟨hT, True.intro⟩
   refine a0g [.v (.int .i64 n), .v (.string s), .v (.string t), .v (.int .i64 way)] I Tryz.func39 ?_
   refine zq I (fun Al W I => (HR _ 2 W (I.box 0 9 _) rfl I.fa.1).out) fun Al W I => ?_
   exact zrb I
 · have HR := fun b m W h1 h2 h3 => hi0 (k0k n way [s, t] 93 b m W h1 h2 (by simp) h3 h0)
   simp only [if_neg h0]
   generalize errR n way [s, t] = er at *
   have I := Inv.start w [tabF] ⟨hT, True.intro⟩
   refine a0g [.v (.int .i64 n), .v (.string s), .v (.string t), .v (.int .i64 way)] I Tryz.func39 ?_
   refine zq I (fun Al W I => (HR _ 2 W (I.box 0 9 _) rfl I.fa.1).out) fun Al W I => ?_
   exact zrb I
theorem e1n (n way : Int) (s t : ByteArray) (h0 : errL n [s, t] = 0) (hw : 1 ≤ way ∧ way ≤ 5) : t0g n way [s, t] 47 ((fmt n).divM (refD n s) (refD n t) way) := by
 intro xs vs p c base u w hxs hvs oS oL U hT hb
 obtain ⟨hs, ht, hn⟩ := p0s h0
 obtain ⟨x, y, rfl, hx, hy⟩ := k0y hxs
 have ox := oL x (by simp)
 have oy := oL y (by simp)
 have HA := fun W u h1 h2 h3 h4 h5 => hi0 (m1e (fmt n) n way x y (refD n s) (refD n t) base u W h1 h2 h3 h4 (g0s hs hx) (g0s ht hy) (b0m hn) hw h5)
 generalize (fmt n).divM (refD n s) (refD n t) way = R at *
 generalize fmt n = f at *
 subst hvs
 clear oL hx hy hxs h0 hs ht hn
 obtain ⟨r, fl⟩ := R
 have I := Inv.startW w u 182 (uS f n way 0) [g0k base 75 4 p c [s, t].length ([x, y].flatMap Vp.cells), ownF base .u32 141 x.p x.c (dig B32 x.v.d), ownF base .u32 141 y.p y.c (dig B32 y.v.d), tabF] U ⟨oS, ox, oy, hT, True.intro⟩ ⟨fun hf => oS.far U (by kernel_rfl) hf.1 hf.2, fun hf => ox.far U (by kernel_rfl) hf.1 hf.2, fun hf => oy.far U (by kernel_rfl) hf.1 hf.2, fun hf => hT.far U (by kernel_rfl) hf, True.intro⟩
 refine a0g [.p 0 0, .v (.slice p [s, t].length c)] I Tryz.func47 ?_
 refine zd [0, 1] I fun Al W I => ?_
 refine zk [0, 1] I fun I => ?_
 refine zkx 2 I (.pointer (some (at_ p (0 * 4)))) (fun _ => (f0t (m := 0) (n := [s, t].length) (c := c) h0w I.fa.1.solid (by simp))) fun I => ?_
 refine zk [4] I fun I => ?_
 refine zkx 5 I (.pointer (some (at_ p (1 * 4)))) (fun _ => (f0t (m := 1) (n := [s, t].length) (c := c) h0w I.fa.1.solid (by simp))) fun I => ?_
 refine h0x I [(3, .v (.agg #[.int .i64 (x.v.cls : Int), .bool x.v.neg, .slice x.p (dig B32 x.v.d).length x.c, .int .i64 x.v.pow])), (6, .v (.agg #[.int .i64 (y.v.cls : Int), .bool y.v.neg, .slice y.p (dig B32 y.v.d).length y.c, .int .i64 y.v.pow]))] (fun Al W I => ?_) (fun KL7 => ?_)
 · refine zo 7 I fun I => ?_
   refine zge I 0 182 (fun Al W I => have hzW := I.bel.size; (HA W _ (I.box 0 182 _) I.fa.2.1 I.fa.2.2.1 (by omega) I.fa.2.2.2.1).out) fun Al V Iv _ _ kz => ?_
   rintro _ W ⟨v12, hR12, p12, c12, rfl, o12, hO, hB⟩
   refine ⟨_, rfl, kz _ (uS f n way (fl : Int)) _ hO hB fun I => ?_⟩
   have I := I.ownB base o12
   refine zo 8 I fun I => ?_
   refine zn I fun Al W I => ?_
   exact zret I fun Al W I => ⟨v12, hR12, p12, c12, rfl, I.fa.1, I.bel, I.boxE 182 _⟩
 refine h0x I [(3, .v (.agg #[.int .i64 (x.v.cls : Int), .bool x.v.neg, .slice x.p (dig B32 x.v.d).length x.c, .int .i64 x.v.pow]))] (fun Al W I => ?_) (fun KL5 => ?_)
 · refine zo 6 I fun I => ?_
   refine zx I 11 (fun _ => .agg #[.int .i64 (y.v.cls : Int), .bool y.v.neg, .slice y.p (dig B32 y.v.d).length y.c, .int .i64 y.v.pow]) (fun Al W I => (b0t (m := 1 * 4) I.fa.1 d0i y.cells rfl rfl)) fun Al W I => ?_
   exact zuse KL7 I
 refine h0x I [(6, .v (.agg #[.int .i64 (y.v.cls : Int), .bool y.v.neg, .slice y.p (dig B32 y.v.d).length y.c, .int .i64 y.v.pow]))] (fun Al W I => ?_) (fun KL6 => ?_)
 · refine zo 3 I fun I => ?_
   refine zx I 8 (fun _ => .agg #[.int .i64 (x.v.cls : Int), .bool x.v.neg, .slice x.p (dig B32 x.v.d).length x.c, .int .i64 x.v.pow]) (fun Al W I => (b0t (m := 0 * 4) I.fa.1 d0i x.cells rfl rfl)) fun Al W I => ?_
   exact zuse KL7 I
 refine zo2 3 6 I (fun I => ?_) (fun I => ?_)
 · refine zx I 8 (fun _ => .agg #[.int .i64 (x.v.cls : Int), .bool x.v.neg, .slice x.p (dig B32 x.v.d).length x.c, .int .i64 x.v.pow]) (fun Al W I => (b0t (m := 0 * 4) I.fa.1 d0i x.cells rfl rfl)) fun Al W I => ?_
   exact zuse KL5 I
 refine zx I 11 (fun _ => .agg #[.int .i64 (y.v.cls : Int), .bool y.v.neg, .slice y.p (dig B32 y.v.d).length y.c, .int .i64 y.v.pow]) (fun Al W I => (b0t (m := 1 * 4) I.fa.1 d0i y.cells rfl rfl)) fun Al W I => ?_
 exact zuse KL6 I
theorem e1o (n way : Int) (s t : ByteArray) (w : World) (hT : TabW w) : Calls Tryz.prog 9 #[.int .i64 n, .string s, .string t, .int .i64 way] w (c0m n way [s, t] ((fmt n).divM (refD n s) (refD n t) way) w) := by
 unfold c0m
 by_cases h0 : errR n way [s, t] = 0
 · obtain ⟨hn, hL, hw⟩ := f0o h0
   have HR := fun b m W h1 h2 h3 => hi0 (n0x n way [s, t] 47 _ b m W h1 h2 (by simp) h3 (fun _ _ => by kernel_rfl) h0 (e1n n way s t hL hw) (f1w (b0m hn) (b0h hn).inf (b0h hn).ok way))
   simp only [h0, if_true]
   generalize strR n ((fmt n).divM (refD n s) (refD n t) way).1 = str at *
   generalize ((fmt n).divM (refD n s) (refD n t) way).2 = fl at *
   have I := Inv.start w [tabF] ⟨hT, True.intro⟩
   refine a0g [.v (.int .i64 n), .v (.string s), .v (.string t), .v (.int .i64 way)] I Tryz.func9 ?_
   refine zq I (fun Al W I => (HR _ 2 W (I.box 0 9 _) rfl I.fa.1).out) fun Al W I => ?_
   exact zrb I
 · have HR := fun b m W h1 h2 h3 => hi0 (k0k n way [s, t] 47 b m W h1 h2 (by simp) h3 h0)
   simp only [if_neg h0]
   generalize errR n way [s, t] = er at *
   have I := Inv.start w [tabF] ⟨hT, True.intro⟩
   refine a0g [.v (.int .i64 n), .v (.string s), .v (.string t), .v (.int .i64 way)] I Tryz.func9 ?_
   refine zq I (fun Al W I => (HR _ 2 W (I.box 0 9 _) rfl I.fa.1).out) fun Al W I => ?_
   exact zrb I
theorem b1i {n : Int} {s t z : ByteArray} (h : errL n [s, t, z] = 0) : b0c n s = 0 ∧ b0c n t = 0 ∧ b0c n z = 0 ∧ IsFm n := by
 have h1 := e0n n h s (by simp)
 exact ⟨h1, e0n n h t (by simp), e0n n h z (by simp), (c0l.1 h1).1⟩
theorem w0s {n : Int} {xs : List Vp} {s t z : ByteArray} (h : xs.map (·.v) = [s, t, z].map (decP n)) : ∃ x y q, xs = [x, y, q] ∧ x.v = decP n s ∧ y.v = decP n t ∧ q.v = decP n z := by
 cases xs with
 | nil => simp at h
 | cons x l =>
  cases l with
  | nil => simp at h
  | cons y l =>
   cases l with
   | nil => simp at h
   | cons q l =>
    cases l with
    | nil => simp only [List.map_cons, List.map_nil, List.cons.injEq, and_true] at h; exact ⟨x, y, q, rfl, h.1, h.2.1, h.2.2⟩
    | cons _ _ => simp at h
def r0k (a : Vp) : Vp := ⟨⟨a.v.cls, if a.v.cls ≤ 3 then !a.v.neg else a.v.neg, a.v.d, a.v.pow⟩, a.p, a.c⟩
theorem t0h (a : Vp) (w : World) : Calls Tryz.prog 92 #[.agg #[.int .i64 (a.v.cls : Int), .bool a.v.neg, .slice a.p (dig B32 a.v.d).length a.c, .int .i64 a.v.pow]] w fun en w' => en = .returned (.agg #[.int .i64 (((r0k a).v.cls : Nat) : Int), .bool (r0k a).v.neg, .slice (r0k a).p (dig B32 (r0k a).v.d).length (r0k a).c, .int .i64 (r0k a).v.pow]) ∧ Below w.heap.size w w' := w0q a w
theorem e1p {g : Bool} {m : Nat} {e : Int} (h : m ≠ 0) : bare ⟨!g, m, e⟩ = b0i (bare ⟨g, m, e⟩) := by
 have h2 := (m0p (g := g) (e := e) h).2
 unfold bare b0i at *
 rw [if_neg h] at h2 ⊢
 rw [if_neg h]
 simp only at h2 ⊢
 rw [decide_eq_true (Nat.pos_of_ne_zero h2), Bool.and_true]
theorem b1j {f : Fm} {r : Vr} (h : r.cls = 3 → f.fam = 1) : r.opp.cls = 3 → f.fam = 1 := fun k => h (by unfold Vr.opp at k; split at k <;> exact k)
theorem i1m {f : Fm} {r : Vr} (R : VrF f r) : VrF f r.opp := by
 have hcls : r.opp.cls = r.cls := by unfold Vr.opp; split <;> rfl
 have hneg : r.opp.neg = if r.cls ≤ 3 then !r.neg else r.neg := by unfold Vr.opp; split <;> rfl
 have hx : r.opp.x = if r.cls ≤ 3 then b0i r.x else r.x := by unfold Vr.opp; split <;> rfl
 refine ⟨⟨?_, fun h => ?_, fun h => ?_, ?_, ?_, ?_, ?_⟩, b1j R.inf⟩
 · rw [hcls]; exact R.ok.c
 · rw [hcls] at h
   rw [hx, R.ok.x0 h]
   split <;> rfl
 · rw [hcls] at h
   obtain ⟨h1, h2⟩ := R.ok.x2 h
   rw [hx, hneg, if_pos (by omega), if_pos (by omega)]
   refine ⟨h1, ?_⟩
   show (!r.x.neg && decide (0 < r.x.m)) = !r.neg
   rw [decide_eq_true (by omega), Bool.and_true, h2]
 · rw [hx]; split
   · exact r0u R.ok.bare
   · exact R.ok.bare
 · rw [hx]; split <;> exact R.ok.len
 · rw [hx]; split <;> exact R.ok.lo
 · rw [hx]; split <;> exact R.ok.hi
theorem AtV.turn {f : Fm} {a : Vp} {r : Vr} (A : AtV f a r) : AtV f (r0k a) r.opp := by
 have hc := A.rep.cls
 have hcls : r.opp.cls = r.cls := by unfold Vr.opp; split <;> rfl
 have hneg : r.opp.neg = if r.cls ≤ 3 then !r.neg else r.neg := by unfold Vr.opp; split <;> rfl
 have hx : r.opp.x = if r.cls ≤ 3 then b0i r.x else r.x := by unfold Vr.opp; split <;> rfl
 refine ⟨⟨?_, ?_, fun h => ?_, fun h => ?_, A.rep.len, A.rep.lo, A.rep.hi⟩, (i1m ⟨A.ok, A.inf⟩).ok, b1j A.inf⟩
 · rw [hcls]; exact hc
 · rw [hneg, ← hc, ← A.rep.neg]; rfl
 · rw [hcls] at h
   rw [hx, if_pos (by omega), ← A.rep.num h]
   have hd : a.v.d ≠ 0 := fun hd => by
    have := (A.ok.x2 h).1
    rw [← A.rep.num h, hd] at this
    exact this rfl
   show bare ⟨if a.v.cls ≤ 3 then !a.v.neg else a.v.neg, a.v.d, wid f.g * a.v.pow⟩ = _
   rw [if_pos (by omega), e1p hd]
 · rw [hcls] at h; exact A.rep.oth h
theorem e1q (n way : Int) (s t : ByteArray) (h0 : errL n [s, t] = 0) (hw : 1 ≤ way ∧ way ≤ 5) : t0g n way [s, t] 91 ((fmt n).addM (refD n s) (refD n t).opp way) := by
 intro xs vs p c base u w hxs hvs oS oL U hT hb
 obtain ⟨hs, ht, hn⟩ := p0s h0
 obtain ⟨x, y, rfl, hx, hy⟩ := k0y hxs
 have ox := oL x (by simp)
 have oy := oL y (by simp)
 have HA := fun W u h1 h2 h3 h4 h5 => hi0 (i1f (fmt n) n way x (r0k y) (refD n s) (refD n t).opp base u W h1 h2 h3 h4 (g0s hs hx) (g0s ht hy).turn (b0m hn) hw h5)
 generalize (fmt n).addM (refD n s) (refD n t).opp way = R at *
 generalize fmt n = f at *
 subst hvs
 clear oL hx hy hxs h0 hs ht hn
 obtain ⟨r, fl⟩ := R
 have I := Inv.startW w u 182 (uS f n way 0) [g0k base 75 4 p c [s, t].length ([x, y].flatMap Vp.cells), ownF base .u32 141 x.p x.c (dig B32 x.v.d), ownF base .u32 141 y.p y.c (dig B32 y.v.d), tabF] U ⟨oS, ox, oy, hT, True.intro⟩ ⟨fun hf => oS.far U (by kernel_rfl) hf.1 hf.2, fun hf => ox.far U (by kernel_rfl) hf.1 hf.2, fun hf => oy.far U (by kernel_rfl) hf.1 hf.2, fun hf => hT.far U (by kernel_rfl) hf, True.intro⟩
 refine a0g [.p 0 0, .v (.slice p [s, t].length c)] I Tryz.func91 ?_
 refine zcut I none (fun fr bx gs => ∃ (U1 : Nat → Value) (v12 : Vl) (p12 : Option Addr) (c12 : Nat), fr = (.p 0 0 :: .v (.slice p [s, t].length c) :: su 2 (.p 1 0 :: sw U1 5 9 []) : List SV) ∧ bx = [⟨182, (uS f n way (fl : Int)), false⟩, ⟨75, [.v (.int .i64 (v12.cls : Int)), .v (.bool v12.neg), .v (.slice p12 (dig B32 v12.d).length c12), .v (.int .i64 v12.pow)], false⟩] ∧ gs = [ownF base .u32 141 p12 c12 (dig B32 v12.d), g0k base 75 4 p c [s, t].length ([x, y].flatMap Vp.cells), ownF base .u32 141 x.p x.c (dig B32 x.v.d), ownF base .u32 141 y.p y.c (dig B32 y.v.d), tabF] ∧ (VRep f v12 r)) ?_ ?_
 · intro J hJ Al W I
   refine zd [0, 1] I fun Al W I => ?_
   refine zk [0, 1] I fun I => ?_
   refine zkx 2 I (.pointer (some (at_ p (0 * 4)))) (fun _ => (f0t (m := 0) (n := [s, t].length) (c := c) h0w I.fa.1.solid (by simp))) fun I => ?_
   refine zk [4] I fun I => ?_
   refine zkx 5 I (.pointer (some (at_ p (1 * 4)))) (fun _ => (f0t (m := 1) (n := [s, t].length) (c := c) h0w I.fa.1.solid (by simp))) fun I => ?_
   refine zo2 3 6 I (fun I => ?_) (fun I => ?_)
   · refine zx I 8 (fun _ => .agg #[.int .i64 (x.v.cls : Int), .bool x.v.neg, .slice x.p (dig B32 x.v.d).length x.c, .int .i64 x.v.pow]) (fun Al W I => (b0t (m := 0 * 4) I.fa.1 d0i x.cells rfl rfl)) fun Al W I => ?_
     refine zo 6 I fun I => ?_
     refine zx I 11 (fun _ => .agg #[.int .i64 (y.v.cls : Int), .bool y.v.neg, .slice y.p (dig B32 y.v.d).length y.c, .int .i64 y.v.pow]) (fun Al W I => (b0t (m := 1 * 4) I.fa.1 d0i y.cells rfl rfl)) fun Al W I => ?_
     refine zo 7 I fun I => ?_
     refine zq I (fun Al W I => t0h y W) fun Al W I => ?_
     refine zo 8 I fun I => ?_
     refine zge I 0 182 (fun Al W I => have hzW := I.bel.size; (HA W _ (I.box 0 182 _) I.fa.2.1 I.fa.2.2.1 (by omega) I.fa.2.2.2.1).out) fun Al V Iv _ _ kz => ?_
     rintro _ W ⟨v12, hR12, p12, c12, rfl, o12, hO, hB⟩
     refine ⟨_, rfl, kz _ (uS f n way (fl : Int)) _ hO hB fun I => ?_⟩
     have I := I.ownB base o12
     refine zo 9 I fun I => ?_
     refine zn I fun Al W I => ?_
     exact a0m I J fun Al W U I => hJ _ _ _ _ _ ⟨U, v12, p12, c12, rfl, rfl, rfl, hR12⟩ (I.pick [0, 1, 2, 3, 4])
   refine zx I 11 (fun _ => .agg #[.int .i64 (y.v.cls : Int), .bool y.v.neg, .slice y.p (dig B32 y.v.d).length y.c, .int .i64 y.v.pow]) (fun Al W I => (b0t (m := 1 * 4) I.fa.1 d0i y.cells rfl rfl)) fun Al W I => ?_
   refine zo2 3 7 I (fun I => ?_) (fun I => ?_)
   · refine zx I 8 (fun _ => .agg #[.int .i64 (x.v.cls : Int), .bool x.v.neg, .slice x.p (dig B32 x.v.d).length x.c, .int .i64 x.v.pow]) (fun Al W I => (b0t (m := 0 * 4) I.fa.1 d0i x.cells rfl rfl)) fun Al W I => ?_
     refine zo 7 I fun I => ?_
     refine zq I (fun Al W I => t0h y W) fun Al W I => ?_
     refine zo 8 I fun I => ?_
     refine zge I 0 182 (fun Al W I => have hzW := I.bel.size; (HA W _ (I.box 0 182 _) I.fa.2.1 I.fa.2.2.1 (by omega) I.fa.2.2.2.1).out) fun Al V Iv _ _ kz => ?_
     rintro _ W ⟨v12, hR12, p12, c12, rfl, o12, hO, hB⟩
     refine ⟨_, rfl, kz _ (uS f n way (fl : Int)) _ hO hB fun I => ?_⟩
     have I := I.ownB base o12
     refine zo 9 I fun I => ?_
     refine zn I fun Al W I => ?_
     exact a0m I J fun Al W U I => hJ _ _ _ _ _ ⟨U, v12, p12, c12, rfl, rfl, rfl, hR12⟩ (I.pick [0, 1, 2, 3, 4])
   refine zq I (fun Al W I => t0h y W) fun Al W I => ?_
   refine zo 3 I fun I => ?_
   refine zx I 8 (fun _ => .agg #[.int .i64 (x.v.cls : Int), .bool x.v.neg, .slice x.p (dig B32 x.v.d).length x.c, .int .i64 x.v.pow]) (fun Al W I => (b0t (m := 0 * 4) I.fa.1 d0i x.cells rfl rfl)) fun Al W I => ?_
   refine zo 8 I fun I => ?_
   refine zge I 0 182 (fun Al W I => have hzW := I.bel.size; (HA W _ (I.box 0 182 _) I.fa.2.1 I.fa.2.2.1 (by omega) I.fa.2.2.2.1).out) fun Al V Iv _ _ kz => ?_
   rintro _ W ⟨v12, hR12, p12, c12, rfl, o12, hO, hB⟩
   refine ⟨_, rfl, kz _ (uS f n way (fl : Int)) _ hO hB fun I => ?_⟩
   have I := I.ownB base o12
   refine zo 9 I fun I => ?_
   refine zn I fun Al W I => ?_
   exact a0m I J fun Al W U I => hJ _ _ _ _ _ ⟨U, v12, p12, c12, rfl, rfl, rfl, hR12⟩ (I.pick [0, 1, 2, 3, 4])
 rintro _ _ _ ⟨U1, v12, p12, c12, rfl, rfl, rfl, hR12⟩ Al W I
 exact zret I fun Al W I => ⟨v12, hR12, p12, c12, rfl, I.fa.1, I.bel, I.boxE 182 _⟩
theorem e1r (n way : Int) (s t : ByteArray) (w : World) (hT : TabW w) : Calls Tryz.prog 38 #[.int .i64 n, .string s, .string t, .int .i64 way] w (c0m n way [s, t] ((fmt n).addM (refD n s) (refD n t).opp way) w) := by
 unfold c0m
 by_cases h0 : errR n way [s, t] = 0
 · obtain ⟨hn, hL, hw⟩ := f0o h0
   have HR := fun b m W h1 h2 h3 => hi0 (n0x n way [s, t] 91 _ b m W h1 h2 (by simp) h3 (fun _ _ => by kernel_rfl) h0 (e1q n way s t hL hw) (r0i (b0m hn) (b0h hn) (i1m (b0h hn)) way))
   simp only [h0, if_true]
   generalize strR n ((fmt n).addM (refD n s) (refD n t).opp way).1 = str at *
   generalize ((fmt n).addM (refD n s) (refD n t).opp way).2 = fl at *
   have I := Inv.start w [tabF] ⟨hT, True.intro⟩
   refine a0g [.v (.int .i64 n), .v (.string s), .v (.string t), .v (.int .i64 way)] I Tryz.func38 ?_
   refine zq I (fun Al W I => (HR _ 2 W (I.box 0 9 _) rfl I.fa.1).out) fun Al W I => ?_
   exact zrb I
 · have HR := fun b m W h1 h2 h3 => hi0 (k0k n way [s, t] 91 b m W h1 h2 (by simp) h3 h0)
   simp only [if_neg h0]
   generalize errR n way [s, t] = er at *
   have I := Inv.start w [tabF] ⟨hT, True.intro⟩
   refine a0g [.v (.int .i64 n), .v (.string s), .v (.string t), .v (.int .i64 way)] I Tryz.func38 ?_
   refine zq I (fun Al W I => (HR _ 2 W (I.box 0 9 _) rfl I.fa.1).out) fun Al W I => ?_
   exact zrb I
theorem w0t (n way : Int) (s t z : ByteArray) (h0 : errL n [s, t, z] = 0) (hw : 1 ≤ way ∧ way ≤ 5) : t0g n way [s, t, z] 95 ((fmt n).fusedM (refD n s) (refD n t) (refD n z) way) := by
 intro xs vs p c base u w hxs hvs oS oL U hT hb
 obtain ⟨hs, ht, hz, hn⟩ := b1i h0
 obtain ⟨x, y, q, rfl, hx, hy, hq⟩ := w0s hxs
 have ox := oL x (by simp)
 have oy := oL y (by simp)
 have oq := oL q (by simp)
 have HA := fun W u h1 h2 h3 h4 h5 h6 => hi0 (i1g (fmt n) n way x y q (refD n s) (refD n t) (refD n z) base u W h1 h2 h3 h4 h5 (g0s hs hx) (g0s ht hy) (g0s hz hq) (b0m hn) hw h6)
 generalize (fmt n).fusedM (refD n s) (refD n t) (refD n z) way = R at *
 generalize fmt n = f at *
 subst hvs
 clear oL hx hy hq hxs h0 hs ht hz hn
 obtain ⟨r, fl⟩ := R
 have I := Inv.startW w u 182 (uS f n way 0) [g0k base 75 4 p c [s, t, z].length ([x, y, q].flatMap Vp.cells), ownF base .u32 141 x.p x.c (dig B32 x.v.d), ownF base .u32 141 y.p y.c (dig B32 y.v.d), ownF base .u32 141 q.p q.c (dig B32 q.v.d), tabF] U ⟨oS, ox, oy, oq, hT, True.intro⟩ ⟨fun hf => oS.far U (by kernel_rfl) hf.1 hf.2, fun hf => ox.far U (by kernel_rfl) hf.1 hf.2, fun hf => oy.far U (by kernel_rfl) hf.1 hf.2, fun hf => oq.far U (by kernel_rfl) hf.1 hf.2, fun hf => hT.far U (by kernel_rfl) hf, True.intro⟩
 refine a0g [.p 0 0, .v (.slice p [s, t, z].length c)] I Tryz.func95 ?_
 refine zd [0, 1] I fun Al W I => ?_
 refine zk [0, 1] I fun I => ?_
 refine zkx 2 I (.pointer (some (at_ p (0 * 4)))) (fun _ => (f0t (m := 0) (n := [s, t, z].length) (c := c) h0w I.fa.1.solid (by simp))) fun I => ?_
 refine zk [4] I fun I => ?_
 refine zkx 5 I (.pointer (some (at_ p (1 * 4)))) (fun _ => (f0t (m := 1) (n := [s, t, z].length) (c := c) h0w I.fa.1.solid (by simp))) fun I => ?_
 refine zk [7] I fun I => ?_
 refine zkx 8 I (.pointer (some (at_ p (2 * 4)))) (fun _ => (f0t (m := 2) (n := [s, t, z].length) (c := c) h0w I.fa.1.solid (by simp))) fun I => ?_
 refine h0x I [(3, .v (.agg #[.int .i64 (x.v.cls : Int), .bool x.v.neg, .slice x.p (dig B32 x.v.d).length x.c, .int .i64 x.v.pow])), (6, .v (.agg #[.int .i64 (y.v.cls : Int), .bool y.v.neg, .slice y.p (dig B32 y.v.d).length y.c, .int .i64 y.v.pow])), (9, .v (.agg #[.int .i64 (q.v.cls : Int), .bool q.v.neg, .slice q.p (dig B32 q.v.d).length q.c, .int .i64 q.v.pow]))] (fun Al W I => ?_) (fun KL15 => ?_)
 · refine zo 10 I fun I => ?_
   refine zge I 0 182 (fun Al W I => have hzW := I.bel.size; (HA W _ (I.box 0 182 _) I.fa.2.1 I.fa.2.2.1 I.fa.2.2.2.1 (by omega) I.fa.2.2.2.2.1).out) fun Al V Iv _ _ kz => ?_
   rintro _ W ⟨v12, hR12, p12, c12, rfl, o12, hO, hB⟩
   refine ⟨_, rfl, kz _ (uS f n way (fl : Int)) _ hO hB fun I => ?_⟩
   have I := I.ownB base o12
   refine zo 11 I fun I => ?_
   refine zn I fun Al W I => ?_
   exact zret I fun Al W I => ⟨v12, hR12, p12, c12, rfl, I.fa.1, I.bel, I.boxE 182 _⟩
 refine h0x I [(3, .v (.agg #[.int .i64 (x.v.cls : Int), .bool x.v.neg, .slice x.p (dig B32 x.v.d).length x.c, .int .i64 x.v.pow])), (6, .v (.agg #[.int .i64 (y.v.cls : Int), .bool y.v.neg, .slice y.p (dig B32 y.v.d).length y.c, .int .i64 y.v.pow]))] (fun Al W I => ?_) (fun KL12 => ?_)
 · refine zo 9 I fun I => ?_
   refine zx I 14 (fun _ => .agg #[.int .i64 (q.v.cls : Int), .bool q.v.neg, .slice q.p (dig B32 q.v.d).length q.c, .int .i64 q.v.pow]) (fun Al W I => (b0t (m := 2 * 4) I.fa.1 d0i q.cells rfl rfl)) fun Al W I => ?_
   exact zuse KL15 I
 refine h0x I [(3, .v (.agg #[.int .i64 (x.v.cls : Int), .bool x.v.neg, .slice x.p (dig B32 x.v.d).length x.c, .int .i64 x.v.pow])), (9, .v (.agg #[.int .i64 (q.v.cls : Int), .bool q.v.neg, .slice q.p (dig B32 q.v.d).length q.c, .int .i64 q.v.pow]))] (fun Al W I => ?_) (fun KL13 => ?_)
 · refine zo 6 I fun I => ?_
   refine zx I 11 (fun _ => .agg #[.int .i64 (y.v.cls : Int), .bool y.v.neg, .slice y.p (dig B32 y.v.d).length y.c, .int .i64 y.v.pow]) (fun Al W I => (b0t (m := 1 * 4) I.fa.1 d0i y.cells rfl rfl)) fun Al W I => ?_
   exact zuse KL15 I
 refine h0x I [(6, .v (.agg #[.int .i64 (y.v.cls : Int), .bool y.v.neg, .slice y.p (dig B32 y.v.d).length y.c, .int .i64 y.v.pow])), (9, .v (.agg #[.int .i64 (q.v.cls : Int), .bool q.v.neg, .slice q.p (dig B32 q.v.d).length q.c, .int .i64 q.v.pow]))] (fun Al W I => ?_) (fun KL14 => ?_)
 · refine zo 3 I fun I => ?_
   refine zx I 8 (fun _ => .agg #[.int .i64 (x.v.cls : Int), .bool x.v.neg, .slice x.p (dig B32 x.v.d).length x.c, .int .i64 x.v.pow]) (fun Al W I => (b0t (m := 0 * 4) I.fa.1 d0i x.cells rfl rfl)) fun Al W I => ?_
   exact zuse KL15 I
 refine h0x I [(3, .v (.agg #[.int .i64 (x.v.cls : Int), .bool x.v.neg, .slice x.p (dig B32 x.v.d).length x.c, .int .i64 x.v.pow]))] (fun Al W I => ?_) (fun KL9 => ?_)
 · refine zo2 6 9 I (fun I => ?_) (fun I => ?_)
   · refine zx I 11 (fun _ => .agg #[.int .i64 (y.v.cls : Int), .bool y.v.neg, .slice y.p (dig B32 y.v.d).length y.c, .int .i64 y.v.pow]) (fun Al W I => (b0t (m := 1 * 4) I.fa.1 d0i y.cells rfl rfl)) fun Al W I => ?_
     exact zuse KL12 I
   refine zx I 14 (fun _ => .agg #[.int .i64 (q.v.cls : Int), .bool q.v.neg, .slice q.p (dig B32 q.v.d).length q.c, .int .i64 q.v.pow]) (fun Al W I => (b0t (m := 2 * 4) I.fa.1 d0i q.cells rfl rfl)) fun Al W I => ?_
   exact zuse KL13 I
 refine h0x I [(6, .v (.agg #[.int .i64 (y.v.cls : Int), .bool y.v.neg, .slice y.p (dig B32 y.v.d).length y.c, .int .i64 y.v.pow]))] (fun Al W I => ?_) (fun KL10 => ?_)
 · refine zo2 3 9 I (fun I => ?_) (fun I => ?_)
   · refine zx I 8 (fun _ => .agg #[.int .i64 (x.v.cls : Int), .bool x.v.neg, .slice x.p (dig B32 x.v.d).length x.c, .int .i64 x.v.pow]) (fun Al W I => (b0t (m := 0 * 4) I.fa.1 d0i x.cells rfl rfl)) fun Al W I => ?_
     exact zuse KL12 I
   refine zx I 14 (fun _ => .agg #[.int .i64 (q.v.cls : Int), .bool q.v.neg, .slice q.p (dig B32 q.v.d).length q.c, .int .i64 q.v.pow]) (fun Al W I => (b0t (m := 2 * 4) I.fa.1 d0i q.cells rfl rfl)) fun Al W I => ?_
   exact zuse KL14 I
 refine h0x I [(9, .v (.agg #[.int .i64 (q.v.cls : Int), .bool q.v.neg, .slice q.p (dig B32 q.v.d).length q.c, .int .i64 q.v.pow]))] (fun Al W I => ?_) (fun KL11 => ?_)
 · refine zo2 3 6 I (fun I => ?_) (fun I => ?_)
   · refine zx I 8 (fun _ => .agg #[.int .i64 (x.v.cls : Int), .bool x.v.neg, .slice x.p (dig B32 x.v.d).length x.c, .int .i64 x.v.pow]) (fun Al W I => (b0t (m := 0 * 4) I.fa.1 d0i x.cells rfl rfl)) fun Al W I => ?_
     exact zuse KL13 I
   refine zx I 11 (fun _ => .agg #[.int .i64 (y.v.cls : Int), .bool y.v.neg, .slice y.p (dig B32 y.v.d).length y.c, .int .i64 y.v.pow]) (fun Al W I => (b0t (m := 1 * 4) I.fa.1 d0i y.cells rfl rfl)) fun Al W I => ?_
   exact zuse KL14 I
 refine zo3 3 6 9 I (fun I => ?_) (fun I => ?_) (fun I => ?_)
 · refine zx I 8 (fun _ => .agg #[.int .i64 (x.v.cls : Int), .bool x.v.neg, .slice x.p (dig B32 x.v.d).length x.c, .int .i64 x.v.pow]) (fun Al W I => (b0t (m := 0 * 4) I.fa.1 d0i x.cells rfl rfl)) fun Al W I => ?_
   exact zuse KL9 I
 · refine zx I 11 (fun _ => .agg #[.int .i64 (y.v.cls : Int), .bool y.v.neg, .slice y.p (dig B32 y.v.d).length y.c, .int .i64 y.v.pow]) (fun Al W I => (b0t (m := 1 * 4) I.fa.1 d0i y.cells rfl rfl)) fun Al W I => ?_
   exact zuse KL10 I
 refine zx I 14 (fun _ => .agg #[.int .i64 (q.v.cls : Int), .bool q.v.neg, .slice q.p (dig B32 q.v.d).length q.c, .int .i64 q.v.pow]) (fun Al W I => (b0t (m := 2 * 4) I.fa.1 d0i q.cells rfl rfl)) fun Al W I => ?_
 exact zuse KL11 I
theorem w0u (n way : Int) (s t z : ByteArray) (w : World) (hT : TabW w) : Calls Tryz.prog 40 #[.int .i64 n, .string s, .string t, .string z, .int .i64 way] w (c0m n way [s, t, z] ((fmt n).fusedM (refD n s) (refD n t) (refD n z) way) w) := by
 unfold c0m
 by_cases h0 : errR n way [s, t, z] = 0
 · obtain ⟨hn, hL, hw⟩ := f0o h0
   have HR := fun b m W h1 h2 h3 => hi0 (n0x n way [s, t, z] 95 _ b m W h1 h2 (by simp) h3 (fun _ _ => by kernel_rfl) h0 (w0t n way s t z hL hw) (v0b (b0m hn) (b0h hn).inf (b0h hn).inf (b0h hn) way))
   simp only [h0, if_true]
   generalize strR n ((fmt n).fusedM (refD n s) (refD n t) (refD n z) way).1 = str at *
   generalize ((fmt n).fusedM (refD n s) (refD n t) (refD n z) way).2 = fl at *
   have I := Inv.start w [tabF] ⟨hT, True.intro⟩
   refine a0g [.v (.int .i64 n), .v (.string s), .v (.string t), .v (.string z), .v (.int .i64 way)] I Tryz.func40 ?_
   refine zq I (fun Al W I => (HR _ 3 W (I.box 0 9 _) rfl I.fa.1).out) fun Al W I => ?_
   exact zrb I
 · have HR := fun b m W h1 h2 h3 => hi0 (k0k n way [s, t, z] 95 b m W h1 h2 (by simp) h3 h0)
   simp only [if_neg h0]
   generalize errR n way [s, t, z] = er at *
   have I := Inv.start w [tabF] ⟨hT, True.intro⟩
   refine a0g [.v (.int .i64 n), .v (.string s), .v (.string t), .v (.string z), .v (.int .i64 way)] I Tryz.func40 ?_
   refine zq I (fun Al W I => (HR _ 3 W (I.box 0 9 _) rfl I.fa.1).out) fun Al W I => ?_
   exact zrb I
theorem i1n {n way : Int} {L : List ByteArray} {R : Vr × Nat} {w : World} {fn : FuncId} {args : Array Value} (h : Calls Tryz.prog fn args w (c0m n way L R w)) :
 Calls Tryz.prog fn args w fun en w' => en = .returned (.tuple #[.string (outS n way L R), .int .i64 ((outF n way L R : Nat) : Int), .int .i64 (errR n way L)]) ∧ Below w.heap.size w w' := by
 refine h.mono fun en w' hh => ⟨?_, hh.2⟩
 unfold outS outF
 have := hh.1
 by_cases h0 : errR n way L = 0
 · rw [if_pos h0] at this ⊢; rw [if_pos h0]; exact this
 · rw [if_neg h0] at this ⊢; rw [if_neg h0]; exact this
theorem l1g {a : Dv} {e : Int} (h : zOf a e = 0) : a.m = 0 := by
 unfold zOf sg at h
 have hp : 0 < 2 ^ (a.e - e).toNat := Nat.pow_pos (by omega)
 rcases Nat.eq_zero_or_pos a.m with k | k
 · exact k
 · have hq := Nat.mul_pos k hp
   have hz : (a.m : Int) * 2 ^ (a.e - e).toNat ≠ 0 := by
    have : (((a.m * 2 ^ (a.e - e).toNat : Nat)) : Int) ≠ 0 := by omega
    simpa using this
   split at h <;> first | exact absurd h hz | (exfalso; apply hz; simpa using h)
end Go.Proofs.YtmacohmclpnphaaGreatDoor
namespace Go.Slip
end Go.Slip
namespace Go.Proofs.YtmacohmclpnphaaGreatDoor
open Go.RowKit Go.Slip
/-! ### The number 1 -/
theorem w0v (x : Dv) : (i0k x (b0i x)).m = 0 := by
 have := y0b x (b0i x) (e := min x.e 0) (by omega) (show min x.e 0 ≤ x.e by omega)
 rw [v0v, Int.add_right_neg] at this
 exact l1g this
theorem sub_self {f : Fm} {r : Vr} (hc : r.cls ≤ 2) (way : Int) : ∃ g, f.addM r r.opp way = (f.zeroM g, 0) := by
 have ho : r.opp = ⟨r.cls, !r.neg, b0i r.x⟩ := by unfold Vr.opp; rw [if_pos (by omega)]
 rw [ho]
 unfold Fm.addM
 rw [if_neg (by simp only; omega), if_neg (by simp only; omega)]
 unfold Fm.sumM
 rw [if_neg (by rw [w0v]; simp)]
 split
 · exact ⟨_, rfl⟩
 · exact ⟨_, rfl⟩
end Go.Proofs.YtmacohmclpnphaaGreatDoor
namespace Go.Slip
def i1o (x : Dv) (N : Nat) : Dv := bare (s0t x.m (p0b x.e N) (isq (x.m * 2 ^ p0b x.e N)) 1 x.e)
end Go.Slip
namespace Go.Proofs.YtmacohmclpnphaaGreatDoor
open Go.RowKit Go.Slip
theorem v0d (n : Int) : bits .and .i64 n 1 = n % 2 := by
 have h1 : (BitVec.ofInt 64 1).toNat = 2 ^ 1 - 1 := by decide
 have key : (BitVec.ofInt 64 n &&& BitVec.ofInt 64 1).toNat = (n % ((2 ^ 64 : Nat) : Int)).toNat % 2 ^ 1 := by
  rw [BitVec.toNat_and, BitVec.toNat_ofInt, h1, Nat.and_two_pow_sub_one_eq_mod]
 show IntKind.i64.wrap ((BitVec.ofInt 64 n &&& BitVec.ofInt 64 1).toNat : Nat) = n % 2
 rw [key, IntKind.wrap_i64]
 omega
def c0z (a K e f k : Nat) : Prop := e + f * k = K ∧ (1 ≤ k → 1 ≤ f) ∧ a = a
theorem c0z.start (a K : Nat) : c0z a K 0 1 K := ⟨by omega, fun _ => by omega, rfl⟩
theorem c0z.odd {a K e f k : Nat} (h : c0z a K e f k) (h1 : k % 2 = 1) : c0z a K (e + f) (f + f) (k / 2) := by
 refine ⟨?_, fun _ => by have := h.2.1; omega, rfl⟩
 have h2 := h.1
 obtain ⟨u, rfl⟩ : ∃ u, k = 2 * u + 1 := ⟨k / 2, by omega⟩
 rw [show (2 * u + 1) / 2 = u by omega]
 grind
theorem c0z.last {a K e f : Nat} (h : c0z a K e f 1) : c0z a K (e + f) f 0 := ⟨by have := h.1; omega, fun h => by omega, rfl⟩
theorem c0z.one {a K e f k : Nat} (h : c0z a K e f k) (h1 : k = 1) : c0z a K (e + f) f (k / 2) := by subst h1; exact h.last
theorem c0z.even {a K e f k : Nat} (h : c0z a K e f k) (h0 : 0 < k) (h1 : k % 2 = 0) : c0z a K e (f + f) (k / 2) := by
 refine ⟨?_, fun _ => by have := h.2.1; omega, rfl⟩
 have h2 := h.1
 obtain ⟨u, rfl⟩ : ∃ u, k = 2 * u := ⟨k / 2, by omega⟩
 rw [show (2 * u) / 2 = u by omega]
 grind
theorem c0z.le {a K e f k : Nat} (h : c0z a K e f k) (h0 : 0 < k) : e + f ≤ K := by
 have h2 := h.1
 have : f * 1 ≤ f * k := Nat.mul_le_mul_left _ h0
 omega
theorem c0z.le2 {a K e f k : Nat} (h : c0z a K e f k) : e ≤ K := by have := h.1; omega
theorem c0z.done {a K e f : Nat} (h : c0z a K e f 0) : e = K := by have := h.1; omega
theorem i1p {a K e : Nat} (h : e ≤ K) : (dig B32 (a ^ e)).length ≤ K * (dig B32 a).length + 1 := by
 refine Nat.le_trans (i0b a0b a e) ?_
 have := Nat.mul_le_mul_right (dig B32 a).length h
 omega
theorem i1q (p : Option Addr) (n c : Nat) (a K : Nat) (w : World) (hp : Rd w .u32 p (dig B32 a)) (hn : n = (dig B32 a).length) (hK : K ≤ 1000) (hl : (dig B32 a).length ≤ 100000) :
 Calls Tryz.prog 170 #[.slice p n c, .int .i64 K] w (f0e w .u32 141 (dig B32 (a ^ K))) := by
 subst hn
 have hKl : K * (dig B32 a).length + 1 ≤ 100000001 := by have := Nat.mul_le_mul hK hl; omega
 have PL : ∀ e, e ≤ K → (dig B32 (a ^ e)).length ≤ 100000001 := fun e he => Nat.le_trans (i1p he) hKl
 have PL := hi0 PL
 have E1 := hi0 (show dig B32 1 = dig B32 (a ^ 0) by rw [Nat.pow_zero])
 have E2 := hi0 (show dig B32 a = dig B32 (a ^ 1) by rw [Nat.pow_one])
 have hp1 : Rd w .u32 p (dig B32 (a ^ 1)) := by rw [Nat.pow_one]; exact hp
 go_enter Tryz.func170, Tryz.ntmps170
 go_wp2_with fail
 refine (n0q 1 _ (by omega)).mono ?_
 rw [E1.out, E2.out]
 rintro e w1 ⟨po, co, rfl, hoo, hb1⟩
 go_wp2_with fail
 go_loopw [0, 1, 5] (fun av kv ov wr => ∃ (e f k : Nat) (pa : Option Addr) (ca : Nat) (po : Option Addr) (co : Nat), kv = .int .i64 k ∧ av = .slice pa (dig B32 (a ^ f)).length ca ∧ ov = .slice po (dig B32 (a ^ e)).length co ∧ k ≤ K ∧
     Rd wr .u32 pa (dig B32 (a ^ f)) ∧ Own wr w.heap.size .u32 141 po co (dig B32 (a ^ e)) ∧ Below w.heap.size w wr ∧ Hid (c0z a K e f k))
  (fun _ kv _ _ => (intOf kv).toNat)
 case atStart => exact ⟨0, 1, K, p, c, po, co, rfl, (by rw [Nat.pow_one]), rfl, Nat.le_refl _, hp1.past hb1, hoo, hb1, c0z.start a K⟩
 case round =>
  obtain ⟨e, f, k, pa, ca, po, co, rfl, rfl, rfl, hk, hra, hoo, hb, HR⟩ := hrel
  by_cases h0 : 0 < k
  · have hef := HR.out.le h0
    have l1 := PL.out e (by omega)
    have l2 := PL.out f (by omega)
    by_cases h1 : k % 2 = 1
    · have hbit : bits BinOp.and IntKind.i64 (k : Int) 1 = 1 := by rw [v0d]; omega
      have eef := hi0 (show a ^ e * a ^ f = a ^ (e + f) from (Nat.pow_add _ _ _).symm)
      by_cases h2 : 1 < k
      · have HS := hi0 (HR.out.odd h1)
        have eff := hi0 (show a ^ f * a ^ f = a ^ (f + f) from (Nat.pow_add _ _ _).symm)
        clear h1
        go_wp2_with fail
        refine (i0m po pa _ _ co ca (a ^ e) (a ^ f) _ hoo.rd hra rfl rfl (by omega)).mono ?_
        rw [eef.out]
        rintro e w2 ⟨p2, c2, rfl, ho2, hb2⟩
        have hra := hra.past hb2
        have hb2 := hb.trans (hb2.mono hb.size)
        go_wp2_with fail
        refine (i0m pa pa _ _ ca ca (a ^ f) (a ^ f) _ hra hra rfl rfl (by omega)).mono ?_
        rw [eff.out]
        rintro e w3 ⟨p3, c3, rfl, ho3, hb3⟩
        have ho2 := (ho2.past hb3).mono hb.size
        have hb3 := hb2.trans (hb3.mono hb2.size)
        go_wp2_with fail
        go_roundw
        case rel => exact ⟨_, _, k / 2, p3, c3, p2, c2, by go_num, rfl, rfl, by omega, ho3.rd, ho2, hb3, HS⟩
        case measure => simp [intOf]; omega
      · have HS := hi0 (HR.out.one (by omega))
        clear h1
        go_wp2_with fail
        refine (i0m po pa _ _ co ca (a ^ e) (a ^ f) _ hoo.rd hra rfl rfl (by omega)).mono ?_
        rw [eef.out]
        rintro e w2 ⟨p2, c2, rfl, ho2, hb2⟩
        have hra := hra.past hb2
        have hb2 := hb.trans (hb2.mono hb.size)
        go_wp2_with fail
        go_roundw
        case rel => exact ⟨_, _, k / 2, pa, ca, p2, c2, by go_num, rfl, rfl, by omega, hra, ho2.mono hb.size, hb2, HS⟩
        case measure => simp [intOf]; omega
    · have hbit : bits BinOp.and IntKind.i64 (k : Int) 1 = 0 := by rw [v0d]; omega
      have HS := hi0 (HR.out.even h0 (by omega))
      have eff := hi0 (show a ^ f * a ^ f = a ^ (f + f) from (Nat.pow_add _ _ _).symm)
      have h2 : 1 < k := by omega
      clear h1
      go_wp2_with fail
      refine (i0m pa pa _ _ ca ca (a ^ f) (a ^ f) _ hra hra rfl rfl (by omega)).mono ?_
      rw [eff.out]
      rintro e w3 ⟨p3, c3, rfl, ho3, hb3⟩
      have hoo := hoo.past hb3
      have hb3 := hb.trans (hb3.mono hb.size)
      go_wp2_with fail
      go_roundw
      case rel => exact ⟨_, _, k / 2, p3, c3, po, co, by go_num, rfl, rfl, by omega, ho3.rd, hoo, hb3, HS⟩
      case measure => simp [intOf]; omega
  · obtain rfl : k = 0 := by omega
    go_wp2_with fail
    go_ret
    rw [← HR.out.done]
    exact ⟨po, co, rfl, hoo, hb⟩
def e1s (w : World) (a k : Nat) (en : Ending) (w' : World) : Prop :=
 ∃ r, r ^ k ≤ a ∧ a < (r + 1) ^ k ∧ ∃ p c, en = .returned (.slice p (dig B32 r).length c) ∧ Own w' w.heap.size .u32 141 p c (dig B32 r) ∧ Below w.heap.size w w'
theorem t0i (N : Nat) : (dig B32 (2 ^ N)).length = N / 32 + 1 := by
 rw [← o0e (B := B32) (w := 32) (by decide) (by omega) N]; simp
theorem t0j (a : Nat) : blen a ≤ 32 * (dig B32 a).length := by
 rw [b0e, Nat.pow_mul]
 exact (a0l a0b a _).1 (Nat.le_refl _)
theorem b1k (p : Option Addr) (n c : Nat) (k : Nat) (w : World) (hn : n = 0) (hk : 1 ≤ k) :
 Calls Tryz.prog 129 #[.slice p n c, .int .i64 k] w (e1s w 0 k) := by
 subst hn
 have h1 := hi0 (show 0 ^ k ≤ 0 by rw [Nat.zero_pow hk]; exact Nat.le_refl _)
 have h2 := hi0 (show 0 < (0 + 1) ^ k from Nat.pow_pos (by omega))
 go_enter Tryz.func129, Tryz.ntmps129
 go_wp2_with fail
 refine (f0f p 0 c [] _ (Rd.nil _ _ _) rfl (by simp)).mono ?_
 rintro e w2 ⟨p2, c2, rfl, ho2, hb2⟩
 go_wp2_with fail
 go_ret
 exact ⟨0, h1.out, h2.out, p2, c2, by rw [a0f]; rfl, by rw [a0f]; exact ho2, hb2⟩
theorem e1t (p : Option Addr) (n c : Nat) (a : Nat) (w : World) (hp : Rd w .u32 p (dig B32 a)) (hn : n = (dig B32 a).length) (hl : (dig B32 a).length ≤ 10000) (h0 : 0 < (dig B32 a).length) :
 Calls Tryz.prog 129 #[.slice p n c, .int .i64 1] w (e1s w a 1) := by
 subst hn
 have h1 := hi0 (show a ^ 1 ≤ a by rw [Nat.pow_one]; exact Nat.le_refl _)
 have h2 := hi0 (show a < (a + 1) ^ 1 by rw [Nat.pow_one]; omega)
 have t1 : (((dig B32 a).length : Int) == 0) = false := bFn (by omega)
 go_enter Tryz.func129, Tryz.ntmps129
 go_wp2_with fail
 refine (f0f p _ c _ _ hp rfl (by omega)).mono ?_
 rintro e w2 ⟨p2, c2, rfl, ho2, hb2⟩
 go_wp2_with fail
 go_ret
 exact ⟨a, h1.out, h2.out, p2, c2, rfl, ho2, hb2⟩
theorem b1l (p : Option Addr) (n c : Nat) (a k kk : Nat) (w : World) (hp : Rd w .u32 p (dig B32 a)) (hn : n = (dig B32 a).length) (hl : (dig B32 a).length ≤ 10000) (h0 : 0 < (dig B32 a).length) (hk : 2 ≤ k) (hk2 : k ≤ 1000) (hkk : k = kk + 1) :
 Calls Tryz.prog 129 #[.slice p n c, .int .i64 k] w (e1s w a k) := by
 subst hn
 have ha : 0 < a := by
  have := a0k a0b a
  omega
 have HA := hi0 ha
 have t1 : (((dig B32 a).length : Int) == 0) = false := bFn (by omega)
 have t2 : ((k : Int) == 1) = false := bFn (by omega)
 have hbl := t0j a
 obtain ⟨N, hN⟩ : ∃ N, N = (blen a + k - 1) / k := ⟨_, rfl⟩
 have hN1 : blen a ≤ N * (kk + 1) := by
  rw [← hkk, hN]
  have := f0h (blen a + k - 1) k (by omega)
  rw [Nat.add_mul, Nat.one_mul] at this
  omega
 have hN2 : N ≤ blen a + k := by rw [hN]; exact Nat.le_trans (Nat.div_le_self _ _) (by omega)
 have eN : ((blen a : Int) + (k : Int) - 1) / (k : Int) = (N : Nat) := by
  rw [hN, show (blen a : Int) + (k : Int) - 1 = ((blen a + k - 1 : Nat) : Int) by omega]; rfl
 have HN := hi0 (v0o N hN1)
 rw [← hkk] at HN
 have ek : (k : Int) - 1 = (kk : Nat) := by omega
 have hkk1 : kk ≤ 1000 := by omega
 have LB : (dig B32 (2 ^ N)).length ≤ 11033 := by have := t0i N; omega
 have HK := hi0 hkk
 have k0 : (0 : Int) ≤ (blen a : Int) + (k : Int) - 1 := by omega
 have k1 : (1 : Int) ≤ (k : Int) := by omega
 have hN3 : N ≤ 1000000000 := by omega
 have E1 := hi0 (Nat.one_mul (2 ^ N))
 clear hN hN1 hkk ha
 go_enter Tryz.func129, Tryz.ntmps129
 go_wp2_with fail
 refine (n0q 1 _ (by omega)).mono ?_
 rintro e w1 ⟨p1, c1, rfl, ho1, hb1⟩
 go_wp2_with fail
 refine (f0i p _ c a _ (hp.past hb1) rfl (by omega)).mono ?_
 rintro e w2 ⟨rfl, rfl⟩
 go_wp2_with fail
 refine (g0g p1 _ c1 1 N _ ho1.rd rfl (by have := (a0l a0b 1 1).2 (by unfold B32; omega); omega) hN3).mono ?_
 rw [E1.out]
 rintro e w3 ⟨p3, c3, rfl, ho3, hb3⟩
 have hs3 := hb1.trans (hb3.mono hb1.size)
 have ho3 := ho3.mono hb1.size
 clear hb1 hb3 ho1 eN k0
 go_wp2_with fail
 go_loopg [5] (2 ^ N) (fun g xv wr => ∃ (X : Nat) (px : Option Addr) (cx : Nat), X = g ∧ xv = .slice px (dig B32 X).length cx ∧ Own wr w.heap.size .u32 141 px cx (dig B32 X) ∧ Below w.heap.size w wr ∧ Hid (a < (X + 1) ^ k ∧ X ≤ 2 ^ N))
 case atStart => exact ⟨2 ^ N, p3, c3, rfl, rfl, ho3, hs3, ⟨HN.out, Nat.le_refl _⟩⟩
 case round =>
  obtain ⟨X, px, cx, rfl, rfl, hox, hb, HR⟩ := hrel
  have hX : 0 < X := by
   rcases Nat.eq_zero_or_pos X with h | h
   · have h2 := HR.out.1
     have h3 := HA.out
     rw [h, Nat.zero_add, Nat.one_pow] at h2
     omega
   · exact h
  have lx : (dig B32 X).length ≤ 11033 := Nat.le_trans (a0o a0b HR.out.2) LB
  have HXP := hi0 (show 0 < X ^ kk from Nat.pow_pos hX)
  have lxp : (dig B32 (X ^ kk)).length ≤ 100000000 := by
   have h1 := i0b a0b X kk
   have h2 := Nat.mul_le_mul hkk1 lx
   omega
  obtain ⟨q, hq⟩ : ∃ q, q = a / X ^ kk := ⟨_, rfl⟩
  have lq : (dig B32 q).length ≤ 10000 := by rw [hq]; exact Nat.le_trans (a0o a0b (Nat.div_le_self _ _)) hl
  have HQ := hi0 hq
  obtain ⟨y, hy⟩ : ∃ y, y = (X * kk + q) / k := ⟨_, rfl⟩
  have HY := hi0 hy
  have hy2 : y = (X * kk + a / X ^ kk) / (kk + 1) := by rw [hy, hq, HK.out]
  have HAB := hi0 (q0d hX hy2)
  have HST := hi0 (fun h : X ≤ y => r0s hX hy2 h)
  rw [← HK.out] at HAB HST
  have lk : (dig B32 kk).length ≤ 1 := (a0l a0b kk 1).2 (by unfold B32; omega)
  have lm : (dig B32 (X * kk)).length ≤ 11034 := by have := c0s a0b X kk; omega
  have ls : (dig B32 (X * kk + q)).length ≤ 100000 := by have := d0v a0b (X * kk) q; omega
  have ly : (dig B32 y).length ≤ 100000 := by rw [hy]; exact Nat.le_trans (a0o a0b (Nat.div_le_self _ _)) ls
  clear hy hy2 hq
  go_wp2_with fail
  refine (i1q px _ cx X kk _ hox.rd rfl hkk1 (by omega)).mono ?_
  rintro e w4 ⟨p4, c4, rfl, ho4, hb4⟩
  have hs4 := hb.trans (hb4.mono hb.size)
  have hox4 := hox.past hb4
  go_wp2_with fail
  refine (i0v p p4 _ _ c c4 a (X ^ kk) _ (hp.past hs4) ho4.rd rfl rfl (by omega) lxp HXP.out).mono ?_
  rw [← HQ.out]
  rintro e w5 ⟨p5, c5, q5, d5, rfl, ho5, -, hb5, -⟩
  have hs5 := hs4.trans (hb5.mono hs4.size)
  have hox5 := hox4.past hb5
  clear hox hox4 hb4 hb5 hs4 ho4
  go_wp2_with fail
  refine (n0q kk _ (by omega)).mono ?_
  rintro e w6 ⟨p6, c6, rfl, ho6, hb6⟩
  have hs6 := hs5.trans (hb6.mono hs5.size)
  have hox6 := hox5.past hb6
  have hq6 := ho5.rd.past hb6
  clear hox5 hb6 hs5 ho5
  go_wp2_with fail
  refine (i0m px p6 _ _ cx c6 X kk _ hox6.rd ho6.rd rfl rfl (by omega)).mono ?_
  rintro e w7 ⟨p7, c7, rfl, ho7, hb7⟩
  have hs7 := hs6.trans (hb7.mono hs6.size)
  have hox7 := hox6.past hb7
  have hq7 := hq6.past hb7
  clear hox6 hb7 hs6 hq6 ho6
  go_wp2_with fail
  refine (l0b p7 p5 _ _ c7 c5 (X * kk) q _ ho7.rd hq7 rfl rfl (by omega) (by omega)).mono ?_
  rintro e w8 ⟨p8, c8, rfl, ho8, hb8⟩
  have hs8 := hs7.trans (hb8.mono hs7.size)
  have hox8 := hox7.past hb8
  clear hox7 hb8 hs7 hq7 ho7
  go_wp2_with fail
  refine (q0v p8 _ c8 (X * kk + q) k _ ho8.rd rfl (by omega) (by omega) (by omega)).mono ?_
  rw [← HY.out]
  rintro e w9 ⟨p9, c9, rfl, ho9, hb9⟩
  have hs9 := hs8.trans (hb9.mono hs8.size)
  have hox9 := hox8.past hb9
  have hsz8 := hs8.size
  clear hox8 hb9 ho8
  go_wp2_with fail
  refine (d0r p9 px _ _ c9 cx y X _ ho9.rd hox9.rd rfl rfl (by omega) (by omega)).mono ?_
  rintro e w10 ⟨rfl, hb10⟩
  have hs10 := hs9.trans (hb10.mono hs9.size)
  have hox10 := hox9.past hb10
  have hoy10 := ho9.past hb10
  clear hox9 hb10 hs9 ho9
  by_cases hyx : X ≤ y
  · have hC : 0 ≤ cmpN y X := by unfold cmpN; rw [if_neg (by omega)]; split <;> omega
    have H1 := hi0 (HST.out hyx)
    have H2 := hi0 HR.out.1
    go_wp2_with fail
    go_ret
    exact ⟨X, H1.out, H2.out, px, cx, rfl, hox10, hs10⟩
  · have hC : cmpN y X ≤ -1 := by rw [j0u (by omega)]; omega
    have hlt : y < X := by omega
    clear hyx
    have hle := hi0 (show y ≤ 2 ^ N from Nat.le_trans (Nat.le_of_lt hlt) HR.out.2)
    go_wp2_with fail
    go_roundg y
    case measure => omega
    case rel => exact ⟨y, p9, c9, rfl, rfl, hoy10.mono hsz8, hs10, ⟨HAB.out, hle.out⟩⟩
theorem r0l (p : Option Addr) (n c : Nat) (a k : Nat) (w : World) (hp : Rd w .u32 p (dig B32 a)) (hn : n = (dig B32 a).length) (hl : (dig B32 a).length ≤ 10000) (hk : 1 ≤ k) (hk2 : k ≤ 1000) :
 Calls Tryz.prog 129 #[.slice p n c, .int .i64 k] w (e1s w a k) := by
 by_cases h0 : (dig B32 a).length = 0
 · have e := (a0k a0b a).1 h0
   subst e
   exact b1k p n c k w (by omega) hk
 · by_cases h1 : k = 1
   · subst h1
     exact e1t p n c a w hp hn hl (by omega)
   · exact b1l p n c a k (k - 1) w hp hn hl (by omega) (by omega) hk2 (by omega)
def _root_.Go.Slip.Fm.sqrtM (f : Fm) (a : Vr) (way : Int) : Vr × Nat :=
 if 4 ≤ a.cls then f.offM else if a.cls = 1 then (f.zeroM a.neg, 0) else if a.neg = true then f.lostM else if a.cls = 3 then (a, 0) else f.numM (i1o a.x (300 - blen a.x.m)) way
theorem e1u (p : Option Addr) (c a : Nat) (w : World) (hp : Rd w .u32 p (dig B32 a)) (hl : (dig B32 a).length ≤ 10000) : Calls Tryz.prog 129 #[.slice p (dig B32 a).length c, .int .i64 2] w (f0e w .u32 141 (dig B32 (isq a))) := by
 refine (r0l p _ c a 2 w hp rfl hl (by omega) (by omega)).mono fun en w' ⟨r, k1, k2, h⟩ => ?_
 rw [k1f k1 k2]
 exact h
theorem l1h (f : Fm) (n way : Int) (a : Vp) (ra : Vr) (base u : Nat) (w : World) (U : Bt w u 182 #[.int .i64 n, .int .i64 way, .int .i64 f.g.rad, .int .i64 f.g.digs, .int .i64 f.g.lo, .int .i64 f.g.hi, .bool f.g.grad, .int .u8 (famB f), .int .i64 0]) (oa : Own w base .u32 141 a.p a.c (dig B32 a.v.d)) (hb : base ≤ w.heap.size)
 (A1 : AtV f a ra) (G : b0g f) (hw : 1 ≤ way ∧ way ≤ 5) (hT : TabW w) :
 Calls Tryz.prog 56 #[.pointer (some ⟨u, 0, none⟩), .agg #[.int .i64 (a.v.cls : Int), .bool a.v.neg, .slice a.p (dig B32 a.v.d).length a.c, .int .i64 a.v.pow]] w (d0c f n way u w base (f.sqrtM ra way)) := by
 have hM : f.sqrtM ra way = if 4 ≤ a.v.cls then f.offM else if a.v.cls = 1 then (f.zeroM a.v.neg, 0) else if a.v.neg = true then f.lostM else if a.v.cls = 3 then (ra, 0) else f.numM (i1o ra.x (300 - blen ra.x.m)) way := by
  unfold Fm.sqrtM; rw [A1.rep.cls, A1.rep.neg]
 have hca : a.v.cls ≤ 5 := by rw [A1.rep.cls]; exact A1.ok.c.2
 have HY := fun W b0 u h1 h2 h3 => hi0 (m0r f n way [a] b0 1 u W h1 h2 rfl (by simp) (by simp [hca]) G h3)
 have HN := fun W b0 u h1 h2 h3 => hi0 (r0e f n way 0 [a] b0 1 u W h1 h2 rfl (by simp) h3)
 have HL := fun W u h1 => hi0 (t0e f n way u W h1)
 have HZ := fun W u h1 => hi0 (n0u f n way 0 a.v.neg u W h1)
 have HA := fun W u h1 h2 h3 => hi0 (m0y f n way 0 a.v ra a.p a.c base u W h1 h2 A1.rep A1.ok h3)
 have hoffm : f.offM = (⟨f.nothM.cls, false, vz⟩, f.offM.2) := rfl
 have hk2 := f0n G
 have hlostm : f.lostM = (⟨f.nothM.cls, false, vz⟩, 16) := rfl
 have VA := A1.rep
 have sa := A1.ok.sm
 have hl1 := A1.ok.len
 have hl2 := sa.lo
 have hl3 := sa.hi
 have HLX := fun W p c h => hi0 (stay (f0i p _ c ra.x.m W h rfl (by omega)))
 have hLX := e0v ra.x.m
 obtain ⟨N0, hN0⟩ : ∃ N0, 300 - blen ra.x.m = N0 := ⟨_, rfl⟩
 have m1 : max 0 (300 - ((blen ra.x.m : Nat) : Int)) = (N0 : Int) := by omega
 rw [hN0] at hM
 generalize blen ra.x.m = LX at *
 have hev : p0b ra.x.e N0 = if (ra.x.e - N0) % 2 = 0 then N0 else N0 + 1 := rfl
 have HE0 := hi0 (w0e ra.x.e N0)
 have hnb := d1a ra.x.e N0
 unfold i1o at hM
 obtain ⟨N, hN⟩ : ∃ N, p0b ra.x.e N0 = N := ⟨_, rfl⟩
 rw [hN] at hM hev HE0 hnb
 clear hN
 have hpe : ((ra.x.e - (N0 : Int)).tmod 2 != 0) = !decide ((ra.x.e - (N0 : Int)) % 2 = 0) := l1s _
 obtain ⟨par, hpar⟩ : ∃ b, ((ra.x.e - (N0 : Int)).tmod 2 != 0) = b := ⟨_, rfl⟩
 have hNt : par = true → (N0 : Int) + 1 = N := fun h => by
  rw [hpar, h] at hpe
  have : ¬ (ra.x.e - (N0 : Int)) % 2 = 0 := by simpa using hpe.symm
  rw [if_neg this] at hev; omega
 have hNf : par = false → (N0 : Int) = N := fun h => by
  rw [hpar, h] at hpe
  have : (ra.x.e - (N0 : Int)) % 2 = 0 := by simpa using hpe.symm
  rw [if_pos this] at hev; omega
 have HPAR := hi0 hpar
 clear hpar hpe hev
 have HSX := fun W M p c h hM => hi0 (fshl p _ c ra.x.m N _ M W h rfl (by omega) (by omega) hM rfl)
 have lXN : (dig B32 (ra.x.m * 2 ^ N)).length ≤ 1700 := by have := i0n ra.x.m N; omega
 have hst : s0t ra.x.m N (isq (ra.x.m * 2 ^ N)) 1 ra.x.e = ⟨false, isq (ra.x.m * 2 ^ N) * 2 ^ 1 + (if isq (ra.x.m * 2 ^ N) * isq (ra.x.m * 2 ^ N) ≠ ra.x.m * 2 ^ N then 1 else 0), (ra.x.e - N) / 2 - 1⟩ := by unfold s0t; rw [Nat.mul_comm]; rfl
 rw [hst] at hM
 clear hst
 generalize ra.x.m * 2 ^ N = XN at *
 have HRT := fun W p c h => hi0 (e1u p c XN W h (by omega))
 have lR : (dig B32 (isq XN)).length ≤ 1700 := Nat.le_trans (a0o a0b (k1g XN)) lXN
 generalize isq XN = R at *
 have lRR := c0s a0b R R
 have HS1 := fun W p c h => hi0 (fshl p _ c R 1 _ 1 W h rfl (by omega) (by omega) rfl rfl)
 have HMU := fun W p c h => hi0 (i0m p p _ _ c c R R W h h rfl rfl (by omega))
 have HCM := fun W p q c d h1 h2 => hi0 (d0r p q _ _ c d (R * R) XN W h1 h2 rfl rfl (by omega) (by omega))
 have lQ0 : (dig B32 (R * 2 ^ 1)).length ≤ 1702 := by have := i0n R 1; omega
 generalize hQ0 : R * 2 ^ 1 = Q0 at *
 clear hQ0
 have l1 : (dig B32 1).length ≤ 1 := by rw [m0e a0b (by omega) (by unfold B32; omega)]; simp
 have HAD := fun W p q c d h1 h2 => hi0 (l0b p q _ _ c d Q0 1 W h1 h2 rfl rfl (by omega) (by omega))
 have lQ1 : (dig B32 (Q0 + 1)).length ≤ 1800 := Nat.le_trans (d0v a0b Q0 1) (by omega)
 obtain ⟨sb, hsb⟩ : ∃ b, (cmpN (R * R) XN != 0) = b := ⟨_, rfl⟩
 have hc0 : cmpN (R * R) XN = 0 ↔ R * R = XN := by unfold cmpN; split <;> (try split) <;> omega
 obtain ⟨Q, hQ⟩ : ∃ Q, Q0 + (if R * R ≠ XN then 1 else 0) = Q := ⟨_, rfl⟩
 rw [hQ] at hM
 have hQt : sb = true → Q0 + 1 = Q := fun h => by
  rw [h, bne_iff_ne] at hsb
  rw [← hQ, if_pos (fun k => hsb (hc0.2 k))]
 have hQf : sb = false → Q0 = Q := fun h => by
  rw [h, bne_eq_false_iff_eq] at hsb
  rw [← hQ, if_neg (fun k => k (hc0.1 hsb))]
  rfl
 have lQ : (dig B32 Q).length ≤ 1800 := by
  cases sb
  · rw [← hQf rfl]; omega
  · rw [← hQt rfl]; omega
 have HSB := hi0 hsb
 clear hsb hc0 hQ
 obtain ⟨E2, hE2⟩ : ∃ E2, (ra.x.e - (N : Int)) / 2 = E2 := ⟨_, rfl⟩
 rw [hE2] at hM
 have hE2b : -110000 ≤ E2 ∧ E2 ≤ 100000 := by omega
 have H4 : ∀ k : Int, k = N → IntKind.i64.wrap ((ra.x.e - k).tdiv 2) = E2 := fun k h => by
  rw [h, l1t HE0.out, hE2]; exact iwo
 clear hE2 HE0 hN0
 have hr1 := g0h a0b ⟨false, Q, E2 - 1⟩
 have hr2 := n0f ⟨false, Q, E2 - 1⟩ (n := 1800) (by simp only; omega) (lo := -600000) (hi := 400000) (by simp only; omega) (by simp only; omega) (by omega) (by omega)
 have HW := fun W p (n : Nat) c (q : n = (dig B32 Q).length) (h1 : Rd W .u32 p (dig B32 Q)) (h2 : n ≤ c) h3 => hi0 (m0c p n c (E2 - 1) Q W h1 q h2 (by omega) (by omega) h3)
 generalize bare ⟨false, Q, E2 - 1⟩ = rt at *
 simp only at hr1
 have HNU := fun W p c u h1 h2 => hi0 (p0p f n way rt p c u W h1 h2 (by omega) (by omega) G hw)
 obtain ⟨rS, flS, hS⟩ : ∃ rS flS, f.numM rt way = (rS, flS) := ⟨_, _, rfl⟩
 rw [hS] at HNU hM
 generalize f.sqrtM ra way = RR at *
 generalize f.offM.2 = flo at *
 generalize f.nothM.cls = kN at *
 clear hS
 have I := Inv.startW w u 182 (uS f n way 0) [ownF base .u32 141 a.p a.c (dig B32 a.v.d), tabF] U ⟨oa, hT, True.intro⟩ ⟨fun hf => oa.far U (by kernel_rfl) hf.1 hf.2, fun hf => hT.far U (by kernel_rfl) hf, True.intro⟩
 refine a0g [.p 0 0, .v (.agg #[.int .i64 (a.v.cls : Int), .bool a.v.neg, .slice a.p (dig B32 a.v.d).length a.c, .int .i64 a.v.pow])] I Tryz.func56 ?_
 by_cases hof : 4 ≤ a.v.cls
 · refine zge I 0 182 (fun Al W I => (HY W _ _ (I.box 0 182 _) (I.box 3 75 _) (by simpa using hof)).out) fun Al V Iv _ _ kz => ?_
   rintro _ W ⟨rfl, hO, hB⟩
   refine ⟨_, rfl, kz _ (uS f n way (flo : Int)) _ hO hB fun I => ?_⟩
   rw [hM, if_pos hof, hoffm]
   exact zret I fun Al W I => a0e hk2 rfl I.bel (I.boxE 182 _)
 refine zq I (fun Al W I => have hzW := I.bel.size; (HN W _ _ (I.box 0 182 _) (I.box 3 75 _) (by simp only [List.mem_cons, List.mem_nil_iff, or_false]; rintro x rfl; omega)).out) fun Al W I => ?_
 by_cases z1 : a.v.cls = 1
 · refine zqd I (fun Al W I => a0i a.v.cls a.v.neg a.p (dig B32 a.v.d).length a.c a.v.pow W) (dTr z1) fun Al W I => ?_
   refine zq I (fun Al W I => (HZ W _ (I.box 0 182 _)).out) fun Al W I => ?_
   rw [hM, if_neg hof, if_pos z1]
   exact zret I fun Al W I => a0e (k := 1) (by decide) rfl I.bel (I.boxE 182 _)
 refine zqd I (fun Al W I => a0i a.v.cls a.v.neg a.p (dig B32 a.v.d).length a.c a.v.pow W) (dFa z1) fun Al W I => ?_
 by_cases ng : a.v.neg = true
 · refine zb I 30 (a.v.neg) (true) (ng) fun Al W I => ?_
   refine zge I 0 182 (fun Al W I => (HL W _ (I.box 0 182 _)).out) fun Al V Iv _ _ kz => ?_
   rintro _ W ⟨rfl, hO, hB⟩
   refine ⟨_, rfl, kz _ (uS f n way 16) _ hO hB fun I => ?_⟩
   rw [hM, if_neg hof, if_neg z1, if_pos ng, hlostm]
   exact zret I fun Al W I => a0e hk2 rfl I.bel (I.boxE 182 _)
 refine zb I 30 (a.v.neg) (false) ((by simpa using ng)) fun Al W I => ?_
 by_cases z3 : a.v.cls = 3
 · refine zqd I (fun Al W I => a0a a.v.cls a.v.neg a.p (dig B32 a.v.d).length a.c a.v.pow W) (dTr z3) fun Al W I => ?_
   rw [hM, if_neg hof, if_neg z1, if_neg ng, if_pos z3]
   exact zret I fun Al W I => ⟨a.v, VA, a.p, a.c, rfl, I.fa.1, I.bel, I.boxE 182 _⟩
 refine zqd I (fun Al W I => a0a a.v.cls a.v.neg a.p (dig B32 a.v.d).length a.c a.v.pow W) (dFa z3) fun Al W I => ?_
 refine zg I (fun Al W I => (HA W _ (I.box 0 182 _) I.fa.1 I.fa.2.1).out) fun Al V Iv _ hB _ kz => ?_
 rintro _ W ⟨p39, c39, rfl, o39, hb⟩
 refine ⟨_, rfl, kz _ _ hb fun I => ?_⟩
 have I := I.ownB base o39
 refine zq I (fun Al W I => (HLX W p39 c39 I.fa.1.rd).out) fun Al W I => ?_
 refine zi I 44 .i64 ((300 : Int) - (LX : Int)) ((300 : Int) - (LX : Int)) (iwo) fun Al W I => ?_
 refine zm I 45 .i64 (if (((300 : Int) - (LX : Int)) : Int) > 0 then ((300 : Int) - (LX : Int)) else 0) ((N0 : Int)) (((k1o _ _).trans m1)) fun Al W I => ?_
 refine zi I 50 .i64 (ra.x.e - (N0 : Int)) (ra.x.e - (N0 : Int)) (iwo) fun Al W I => ?_
 refine zbin I 51 _ (fun _ _ _ _ _ => g1w .i64 (ra.x.e - (N0 : Int)) (2) ((ra.x.e - (N0 : Int)).tmod 2) (by omega) (rfl)) fun Al W I => ?_
 refine zb I 52 (((ra.x.e - (N0 : Int)).tmod 2) != 0) (par) (HPAR.out) fun Al W I => ?_
 refine zcut I (some 2000052) (fun fr bx gs => ∃ (U1 : Nat → Value) (k1 : Int), fr = (.p 0 0 :: .v (.agg #[.int .i64 (a.v.cls : Int), .bool a.v.neg, .slice a.p (dig B32 a.v.d).length a.c, .int .i64 a.v.pow]) :: .v undef :: .p 1 0 :: .p 2 0 :: .p 4 0 :: .v (.bool false) :: .p 5 0 :: .v (.int .i64 k1) :: su 3 (sw U1 12 7 (.v (.bool false) :: .v (U1 20) :: .v (.bool false) :: sw U1 22 6 (.v (.bool false) :: sw U1 29 4 (.v (.bool false) :: sw U1 34 18 (.v (.bool par) :: sw U1 53 16 (.v undef :: sw U1 70 14 [])))))) : List SV) ∧ bx = [⟨182, (uS f n way 0), false⟩, ⟨75, [.v (.int .i64 (a.v.cls : Int)), .v (.bool a.v.neg), .v (.slice a.p (dig B32 a.v.d).length a.c), .v (.int .i64 a.v.pow)], false⟩, ⟨75, [.v (.int .i64 0), .v (.bool false), .v (.slice none 0 0), .v (.int .i64 0)], false⟩, ⟨75, [.v (.int .i64 (a.v.cls : Int)), .v (.bool a.v.neg), .v (.slice a.p (dig B32 a.v.d).length a.c), .v (.int .i64 a.v.pow)], false⟩, ⟨75, [.v (.int .i64 0), .v (.bool false), .v (.slice none 0 0), .v (.int .i64 0)], false⟩, ⟨112, [.v (.bool ra.x.neg), .v (.slice p39 (dig B32 ra.x.m).length c39), .v (.int .i64 ra.x.e)], false⟩] ∧ gs = [ownF base .u32 141 p39 c39 (dig B32 ra.x.m), ownF base .u32 141 a.p a.c (dig B32 a.v.d), tabF] ∧ (k1 = (N : Int))) ?_ ?_
 · intro J hJ Al W I
   rcases Bool.eq_false_or_eq_true par with rfl | rfl
   · refine zi I 54 .i64 ((N0 : Int) + 1) ((N0 : Int) + 1) (iwo) fun Al W I => ?_
     exact a0m I J fun Al W U I => hJ _ _ _ _ _ ⟨U, (N0 : Int) + 1, rfl, rfl, rfl, hNt rfl⟩ (I.pick [0, 1, 2])
   exact a0m I J fun Al W U I => hJ _ _ _ _ _ ⟨U, (N0 : Int), rfl, rfl, rfl, hNf rfl⟩ (I.pick [0, 1, 2])
 rintro _ _ _ ⟨U1, k1, rfl, rfl, rfl, hk1⟩ Al W I
 refine zg I (fun Al W I => (HSX W k1 p39 c39 I.fa.1.rd hk1).out) fun Al V Iv _ hB _ kz => ?_
 rintro _ W ⟨p59, c59, rfl, o59, hb⟩
 refine ⟨_, rfl, kz _ _ hb fun I => ?_⟩
 have I := I.ownB base o59
 refine zg I (fun Al W I => (HRT W p59 c59 I.fa.1.rd).out) fun Al V Iv _ hB _ kz => ?_
 rintro _ W ⟨p61, c61, rfl, o61, hb⟩
 refine ⟨_, rfl, kz _ _ hb fun I => ?_⟩
 have I := I.ownB base o61
 refine zg I (fun Al W I => (HS1 W p61 c61 I.fa.1.rd).out) fun Al V Iv _ hB _ kz => ?_
 rintro _ W ⟨p63, c63, rfl, o63, hb⟩
 refine ⟨_, rfl, kz _ _ hb fun I => ?_⟩
 have I := I.ownB base o63
 refine zg I (fun Al W I => (HMU W p61 c61 I.fa.2.1.rd).out) fun Al V Iv _ hB _ kz => ?_
 rintro _ W ⟨p66, c66, rfl, o66, hb⟩
 refine ⟨_, rfl, kz _ _ hb fun I => ?_⟩
 have I := I.ownB base o66
 refine zq I (fun Al W I => (HCM W p66 p59 c66 c59 I.fa.1.rd I.fa.2.2.2.1.rd).out) fun Al W I => ?_
 refine zb I 69 ((cmpN (R * R) XN) != 0) (sb) (HSB.out) fun Al W I => ?_
 refine zcut I (some 2000069) (fun fr bx gs => ∃ (U2 : Nat → Value) (Qv : Nat) (pq : Option Addr) (cq : Nat), fr = (.p 0 0 :: .v (.agg #[.int .i64 (a.v.cls : Int), .bool a.v.neg, .slice a.p (dig B32 a.v.d).length a.c, .int .i64 a.v.pow]) :: .v undef :: .p 1 0 :: .p 2 0 :: .p 4 0 :: .v (.bool false) :: .p 5 0 :: .v (.int .i64 k1) :: .v (.slice p59 (dig B32 XN).length c59) :: .v (.slice p61 (dig B32 R).length c61) :: .v (.slice pq (dig B32 Qv).length cq) :: sw U2 12 7 (.v (.bool false) :: .v (U2 20) :: .v (.bool false) :: sw U2 22 6 (.v (.bool false) :: sw U2 29 4 (.v (.bool false) :: sw U2 34 18 (.v (.bool par) :: sw U2 53 16 (.v (.bool sb) :: sw U2 70 14 []))))) : List SV) ∧ bx = [⟨182, (uS f n way 0), false⟩, ⟨75, [.v (.int .i64 (a.v.cls : Int)), .v (.bool a.v.neg), .v (.slice a.p (dig B32 a.v.d).length a.c), .v (.int .i64 a.v.pow)], false⟩, ⟨75, [.v (.int .i64 0), .v (.bool false), .v (.slice none 0 0), .v (.int .i64 0)], false⟩, ⟨75, [.v (.int .i64 (a.v.cls : Int)), .v (.bool a.v.neg), .v (.slice a.p (dig B32 a.v.d).length a.c), .v (.int .i64 a.v.pow)], false⟩, ⟨75, [.v (.int .i64 0), .v (.bool false), .v (.slice none 0 0), .v (.int .i64 0)], false⟩, ⟨112, [.v (.bool ra.x.neg), .v (.slice p39 (dig B32 ra.x.m).length c39), .v (.int .i64 ra.x.e)], false⟩] ∧ gs = [ownF base .u32 141 pq cq (dig B32 Qv), ownF base .u32 141 p66 c66 (dig B32 (R * R)), ownF base .u32 141 p63 c63 (dig B32 Q0), ownF base .u32 141 p61 c61 (dig B32 R), ownF base .u32 141 p59 c59 (dig B32 XN), ownF base .u32 141 p39 c39 (dig B32 ra.x.m), ownF base .u32 141 a.p a.c (dig B32 a.v.d), tabF] ∧ (Qv = Q)) ?_ ?_
 · intro J hJ Al W I
   rcases Bool.eq_false_or_eq_true sb with rfl | rfl
   · refine zg I (fun Al W I => h1n W) fun Al V Iv _ hB _ kz => ?_
     rintro _ W ⟨p71, c71, rfl, o71, hb⟩
     refine ⟨_, rfl, kz _ _ hb fun I => ?_⟩
     have I := I.ownB base o71
     refine zg I (fun Al W I => (HAD W p63 p71 c63 c71 I.fa.2.2.1.rd I.fa.1.rd).out) fun Al V Iv _ hB _ kz => ?_
     rintro _ W ⟨p72, c72, rfl, o72, hb⟩
     refine ⟨_, rfl, kz _ _ hb fun I => ?_⟩
     have I := I.ownB base o72
     exact a0m I J fun Al W U I => hJ _ _ _ _ _ ⟨U, Q0 + 1, p72, c72, rfl, rfl, rfl, hQt rfl⟩ (I.pick [0, 2, 3, 4, 5, 6, 7, 8])
   exact a0m I J fun Al W U I => hJ _ _ _ _ _ ⟨U, Q0, p63, c63, rfl, rfl, rfl, hQf rfl⟩ (I.pick [1, 0, 1, 2, 3, 4, 5, 6])
 rintro _ _ _ ⟨U2, Qv, pq, cq, rfl, rfl, rfl, hQv⟩ Al W I
 refine zi I 79 .i64 (ra.x.e - k1) (ra.x.e - k1) (iwo) fun Al W I => ?_
 refine zbin I 80 _ (fun _ _ _ _ _ => s0o .i64 (ra.x.e - k1) (2) (E2) (by omega) ((H4 _ hk1))) fun Al W I => ?_
 refine zi I 81 .i64 (E2 - 1) (E2 - 1) (iwo) fun Al W I => ?_
 refine zg I (fun Al W I => (HW W pq (dig B32 Qv).length cq (by rw [hQv]) (hQv ▸ I.fa.1.rd) I.fa.1.le_cap I.fa.2.2.2.2.2.2.2.1).out) fun Al V Iv _ hB _ kz => ?_
 rintro _ W ⟨p82, c82, rfl, o82, hb⟩
 refine ⟨_, rfl, kz _ _ hb fun I => ?_⟩
 have I := I.ownB base o82
 refine zge I 0 182 (fun Al W I => (HNU W p82 c82 _ (I.box 0 182 _) I.fa.1.rd).out) fun Al V Iv _ _ kz => ?_
 rintro _ W ⟨v83, hR83, p83, c83, rfl, o83, hO, hB⟩
 refine ⟨_, rfl, kz _ (uS f n way (flS : Int)) _ hO hB fun I => ?_⟩
 have I := I.ownB base o83
 rw [hM, if_neg hof, if_neg z1, if_neg ng, if_neg z3]
 exact zret I fun Al W I => ⟨v83, hR83, p83, c83, rfl, I.fa.1, I.bel, I.boxE 182 _⟩
theorem e1v {n : Int} {xs : List Vp} {s : ByteArray} (h : xs.map (·.v) = [s].map (decP n)) : ∃ x, xs = [x] ∧ x.v = decP n s := by
 cases xs with
 | nil => simp at h
 | cons x l =>
  cases l with
  | nil => simp only [List.map_cons, List.map_nil, List.cons.injEq, and_true] at h; exact ⟨x, rfl, h⟩
  | cons _ _ => simp at h
theorem b1m {f : Fm} (G : b0g f) {a : Vr} (A : VrF f a) (way : Int) : ResF f (f.sqrtM a way).1 := by
 unfold Fm.sqrtM
 split
 · exact b0w G
 · split
   · exact i0w G _
   · split
     · exact b0w G
     · split
       · rename_i h; exact p0r h A
       · exact b1h G _ _
theorem b1n (n way : Int) (s : ByteArray) (h0 : errL n [s] = 0) (hw : 1 ≤ way ∧ way ≤ 5) : t0g n way [s] 55 ((fmt n).sqrtM (refD n s) way) := by
 intro xs vs p c base u w hxs hvs oS oL U hT hb
 have hs := e0n n h0 s (by simp)
 have hn := (c0l.1 hs).1
 obtain ⟨x, rfl, hx⟩ := e1v hxs
 have ox := oL x (by simp)
 have HA := fun W u h1 h2 h3 h4 => hi0 (l1h (fmt n) n way x (refD n s) base u W h1 h2 h3 (g0s hs hx) (b0m hn) hw h4)
 generalize (fmt n).sqrtM (refD n s) way = R at *
 generalize fmt n = f at *
 subst hvs
 clear oL hx hxs h0 hs hn
 obtain ⟨r, fl⟩ := R
 have I := Inv.startW w u 182 (uS f n way 0) [g0k base 75 4 p c [s].length ([x].flatMap Vp.cells), ownF base .u32 141 x.p x.c (dig B32 x.v.d), tabF] U ⟨oS, ox, hT, True.intro⟩ ⟨fun hf => oS.far U (by kernel_rfl) hf.1 hf.2, fun hf => ox.far U (by kernel_rfl) hf.1 hf.2, fun hf => hT.far U (by kernel_rfl) hf, True.intro⟩
 refine a0g [.p 0 0, .v (.slice p [s].length c)] I Tryz.func55 ?_
 refine zx I 7 (fun _ => .pointer (some (at_ p (0 * 4)))) (fun Al W I => (f0t (m := 0) (n := [s].length) (c := c) h0w I.fa.1.solid (by simp))) fun Al W I => ?_
 refine zx I 8 (fun _ => .agg #[.int .i64 (x.v.cls : Int), .bool x.v.neg, .slice x.p (dig B32 x.v.d).length x.c, .int .i64 x.v.pow]) (fun Al W I => (b0t (m := 0 * 4) I.fa.1 d0i x.cells rfl rfl)) fun Al W I => ?_
 refine zge I 0 182 (fun Al W I => have hzW := I.bel.size; (HA W _ (I.box 0 182 _) I.fa.2.1 (by omega) I.fa.2.2.1).out) fun Al V Iv _ _ kz => ?_
 rintro _ W ⟨v9, hR9, p9, c9, rfl, o9, hO, hB⟩
 refine ⟨_, rfl, kz _ (uS f n way (fl : Int)) _ hO hB fun I => ?_⟩
 have I := I.ownB base o9
 exact zret I fun Al W I => ⟨v9, hR9, p9, c9, rfl, I.fa.1, I.bel, I.boxE 182 _⟩
theorem b1o (n way : Int) (s : ByteArray) (w : World) (hT : TabW w) : Calls Tryz.prog 14 #[.int .i64 n, .string s, .int .i64 way] w (c0m n way [s] ((fmt n).sqrtM (refD n s) way) w) := by
 unfold c0m
 by_cases h0 : errR n way [s] = 0
 · obtain ⟨hn, hL, hw⟩ := f0o h0
   have HR := fun b m W h1 h2 h3 => hi0 (n0x n way [s] 55 _ b m W h1 h2 (by simp) h3 (fun _ _ => by kernel_rfl) h0 (b1n n way s hL hw) (b1m (b0m hn) (b0h hn) way))
   simp only [h0, if_true]
   generalize strR n ((fmt n).sqrtM (refD n s) way).1 = str at *
   generalize ((fmt n).sqrtM (refD n s) way).2 = fl at *
   have I := Inv.start w [tabF] ⟨hT, True.intro⟩
   refine a0g [.v (.int .i64 n), .v (.string s), .v (.int .i64 way)] I Tryz.func14 ?_
   refine zq I (fun Al W I => (HR _ 1 W (I.box 0 9 _) rfl I.fa.1).out) fun Al W I => ?_
   exact zrb I
 · have HR := fun b m W h1 h2 h3 => hi0 (k0k n way [s] 55 b m W h1 h2 (by simp) h3 h0)
   simp only [if_neg h0]
   generalize errR n way [s] = er at *
   have I := Inv.start w [tabF] ⟨hT, True.intro⟩
   refine a0g [.v (.int .i64 n), .v (.string s), .v (.int .i64 way)] I Tryz.func14 ?_
   refine zq I (fun Al W I => (HR _ 1 W (I.box 0 9 _) rfl I.fa.1).out) fun Al W I => ?_
   exact zrb I
def m0z (a : Din) (g : Gd) : Int := if g0t a = 0 then errG g else g0t a
theorem w0w (a : Din) (g : Gd) (w : World) (ha : InD w a) :
 Calls Tryz.prog 111 #[.agg #[.bool a.g, .slice a.p a.xs.length a.c, .int .i64 a.e], .agg #[.int .i64 g.rad, .int .i64 g.digs, .int .i64 g.lo, .int .i64 g.hi, .bool g.grad]] w fun en w' => en = .returned (.int .i64 (m0z a g)) ∧ Below w.heap.size w w' := by
 have HC := fun W (h : InD W a) => hi0 (m0u a W h.rd h.len)
 have HG := fun W => hi0 (g0o g W)
 unfold m0z
 obtain ⟨e1, he1⟩ : ∃ e1, g0t a = e1 := ⟨_, rfl⟩
 obtain ⟨e2, he2⟩ : ∃ e2, errG g = e2 := ⟨_, rfl⟩
 rw [he1] at HC ⊢
 rw [he2] at HG ⊢
 clear he1 he2
 by_cases h1 : e1 = 0
 · subst h1
   rw [if_pos rfl]
   go_enter Tryz.func111, Tryz.ntmps111
   go_wp2_with fail
   refine e0w (fun W1 hb1 hz1 A B => ?_)
   replace ha := ha.past hb1
   have hs1 := hb1
   ((with_reducible refine ((HC _ ha).out).mono ?_))
   rintro e2 w2 ⟨rfl, hb2⟩
   replace A := A.past hb2
   replace B := B.past hb2
   replace ha := ha.past hb2
   have hs2 := hs1.trans (hb2.mono hs1.size)
   obtain ⟨B_0, B_1, B_2, B_3, B_4⟩ := B.e5
   go_wp2_with fail
   clear B_0 B_1 B_2 B_3 B_4
   ((with_reducible refine ((HG _).out).mono ?_))
   rintro e3 w3 ⟨rfl, hb3⟩
   replace A := A.past hb3
   replace B := B.past hb3
   replace ha := ha.past hb3
   have hs3 := hs2.trans (hb3.mono hs2.size)
   go_wp2
   go_ret
   exact ⟨rfl, hs3⟩
 · have t1 : (e1 == 0) = false := bFn h1
   have t2 : (e1 != 0) = true := by rw [bne, t1]; rfl
   rw [if_neg h1]
   clear h1
   go_enter Tryz.func111, Tryz.ntmps111
   go_wp2_with fail
   refine e0w (fun W1 hb1 hz1 A B => ?_)
   replace ha := ha.past hb1
   have hs1 := hb1
   ((with_reducible refine ((HC _ ha).out).mono ?_))
   rintro e2 w2 ⟨rfl, hb2⟩
   replace A := A.past hb2
   replace B := B.past hb2
   replace ha := ha.past hb2
   have hs2 := hs1.trans (hb2.mono hs1.size)
   go_wp2
   go_ret
   exact ⟨rfl, hs2⟩
theorem e1w {a : Din} {g : Gd} (h : m0z a g = 0) : g0t a = 0 ∧ errG g = 0 := by
 unfold m0z at h
 by_cases h1 : g0t a = 0
 · rw [if_pos h1] at h; exact ⟨h1, h⟩
 · rw [if_neg h1] at h; exact absurd h h1
def v0e (a : Din) (g : Gd) : Bool := decide (m0z a g = 0) && g0a (dyV a) g
theorem b1p (a : Din) (g : Gd) (w : World) (ha : InD w a) (hT : TabW w) :
 Calls Tryz.prog 45 #[.agg #[.bool a.g, .slice a.p a.xs.length a.c, .int .i64 a.e], .agg #[.int .i64 g.rad, .int .i64 g.digs, .int .i64 g.lo, .int .i64 g.hi, .bool g.grad]] w fun en w' => en = .returned (.tuple #[.bool (v0e a g), .int .i64 (m0z a g)]) ∧ Below w.heap.size w w' := by
 have HC := fun W h => hi0 (w0w a g W h)
 unfold v0e
 by_cases h0 : m0z a g = 0
 · obtain ⟨hd0, hg0⟩ := e1w h0
   obtain ⟨hla, hea, hea2⟩ := j1i ha hd0
   obtain ⟨ma, exa, eva, la, e1a, e2a⟩ := ha.ok hd0
   have HVA := hi0 (show bare ⟨a.g, ma, a.e⟩ = dyV a by unfold dyV; rw [eva])
   have hca := ha.cap
   have HO := fun W (h : InD W a) hT => hi0 (g1e a.g a.p a.xs.length a.c a.e ma W (by rw [← exa]; exact h.rd) (by rw [exa]) hca (by omega) (by omega) hT)
   rw [HVA.out] at HO
   have hk : g0a (dyV a) g = g0a ⟨(dyV a).neg, (dyV a).m, (dyV a).e⟩ g := rfl
   rw [h0] at HC ⊢
   rw [hk, decide_eq_true rfl, Bool.true_and]
   generalize dyV a = va at *
   have HK := fun W p c (h : Rd W .u32 p (dig B32 va.m)) => hi0 (k0h va.neg p c va.e va.m g W h (by omega) (by omega) (b0s hg0))
   generalize g0a ⟨va.neg, va.m, va.e⟩ g = kb at *
   clear h0 hd0 hg0 exa eva hk
   go_enter Tryz.func45, Tryz.ntmps45
   go_wp2_with fail
   refine e0w (fun W1 hb1 hz1 A B => ?_)
   replace ha := ha.past hb1
   replace hT := hT.past hb1
   have hs1 := hb1
   ((with_reducible refine ((HC _ ha).out).mono ?_))
   rintro e2 w2 ⟨rfl, hb2⟩
   replace A := A.past hb2
   replace B := B.past hb2
   replace ha := ha.past hb2
   replace hT := hT.past hb2
   have hs2 := hs1.trans (hb2.mono hs1.size)
   go_wp2_with fail
   go_region_held3 (fun w' => (w'.cell? ⟨w.heap.size, 0, none⟩ = some (.bool a.g) ∧ w'.cell? ⟨w.heap.size, 1, none⟩ = some (.slice a.p a.xs.length a.c) ∧ w'.cell? ⟨w.heap.size, 2, none⟩ = some (.int .i64 a.e)) ∧
       (w'.cell? ⟨w.heap.size + 1, 0, none⟩ = some (.int .i64 g.rad) ∧ w'.cell? ⟨w.heap.size + 1, 1, none⟩ = some (.int .i64 g.digs) ∧ w'.cell? ⟨w.heap.size + 1, 2, none⟩ = some (.int .i64 g.lo) ∧ w'.cell? ⟨w.heap.size + 1, 3, none⟩ = some (.int .i64 g.hi) ∧ w'.cell? ⟨w.heap.size + 1, 4, none⟩ = some (.bool g.grad)))
    (first
    | with_reducible exact ⟨A.e3, B.e5⟩
    | with_reducible exact ⟨A.drew.e3, B.drew.e5⟩
    | with_reducible exact ⟨(A.drew.past hbx).e3, (B.drew.past hbx).e5⟩
    | with_reducible exact ⟨((A.drew.past hbx).past hby).e3, ((B.drew.past hbx).past hby).e5⟩)
    (first
      | (go_at_call 112; ((with_reducible refine (HO _ ha.drew hT.drew).out.mono ?_)); rintro ex wx ⟨px, cx, rfl, hox, hbx⟩)
      | (go_at_call 101; ((with_reducible refine (HK _ px cx hox.rd).out.mono ?_)); rintro ey wy ⟨rfl, hby⟩))
   all_goals (go_wp2_with fail)
   refine bodyPost_ret (v := .tuple #[.bool kb, .int .i64 0]) (by simp [results, Tryz.results45, go_sem]) rfl ?_
   exact ⟨rfl, (hs2.drew.trans (hbx.mono hs2.size)).trans (hby.mono (Nat.le_trans hs2.size hbx.size))⟩
 · obtain ⟨e1, he1⟩ : ∃ e1, m0z a g = e1 := ⟨_, rfl⟩
   rw [he1] at HC h0 ⊢
   rw [decide_eq_false h0, Bool.false_and]
   have t1 : (e1 == 0) = false := bFn h0
   have t2 : (e1 != 0) = true := by rw [bne, t1]; rfl
   clear he1 h0
   go_enter Tryz.func45, Tryz.ntmps45
   go_wp2_with fail
   refine e0w (fun W1 hb1 hz1 A B => ?_)
   replace ha := ha.past hb1
   replace hT := hT.past hb1
   have hs1 := hb1
   ((with_reducible refine ((HC _ ha).out).mono ?_))
   rintro e2 w2 ⟨rfl, hb2⟩
   replace A := A.past hb2
   replace B := B.past hb2
   replace ha := ha.past hb2
   replace hT := hT.past hb2
   have hs2 := hs1.trans (hb2.mono hs1.size)
   go_wp2
   refine bodyPost_ret (v := .tuple #[.bool false, .int .i64 e1]) (by simp [results, Tryz.results45, go_sem]) rfl ?_
   exact ⟨rfl, hs2⟩
def TopP (n : Int) (o : ByteArray) (er : Int) : Prop := (er ≠ 0 → o = b0a []) ∧ (er = 0 → IsFm n ∧ ∃ r, ResF (fmt n) r ∧ o = strR n r)
theorem k0l {n way : Int} {L : List ByteArray} {R : Vr × Nat} {fn : FuncId} {args : Array Value} (hR : IsFm n → ResF (fmt n) R.1) (h : ∀ W, TabW W → Calls Tryz.prog fn args W (c0m n way L R W)) :
 ∃ (o : ByteArray) (fl : Nat) (er : Int), TopP n o er ∧ ∀ W, TabW W → Hid (Calls Tryz.prog fn args W fun en w' => en = .returned (.tuple #[.string o, .int .i64 (fl : Int), .int .i64 er]) ∧ Below W.heap.size W w') := by
 refine ⟨outS n way L R, outF n way L R, errR n way L, ⟨fun h0 => ?_, fun h0 => ?_⟩, fun W hT => hi0 (i1n (h W hT))⟩
 · unfold outS; rw [if_neg h0]
 · have hn := (f0o h0).1
   exact ⟨hn, R.1, hR hn, by unfold outS; rw [if_pos h0]⟩
structure TopV (n : Int) (o : ByteArray) (r : Vr) (v : Vl) : Prop where
 cls : v.cls = r.cls
 dec : ∀ W, TabW W → Hid (Calls Tryz.prog 41 #[.int .i64 n, .string o] W (t0b W v 0))
 enc : ∀ W p c b, Own W b .u32 141 p c (dig B32 v.d) → TabW W → Hid (Calls Tryz.prog 42 #[.int .i64 n, .agg #[.int .i64 (v.cls : Int), .bool v.neg, .slice p (dig B32 v.d).length c, .int .i64 v.pow]] W fun en w' => en = .returned (.tuple #[.string o, .int .i64 0]) ∧ Below W.heap.size W w')
 grid : ∀ W, Hid (Calls Tryz.prog 43 #[.int .i64 n] W fun en w' => en = .returned (.tuple #[.agg #[.int .i64 (fmt n).g.rad, .int .i64 (fmt n).g.digs, .int .i64 (fmt n).g.lo, .int .i64 (fmt n).g.hi, .bool (fmt n).g.grad], .int .i64 0]) ∧ Below W.heap.size W w')
 num : r.cls = 2 → ∀ W p c b, Own W b .u32 141 p c (dig B32 v.d) → TabW W → Hid (Calls Tryz.prog 44 #[.agg #[.bool v.neg, .slice p (dig B32 v.d).length c, .int .i64 v.pow, .bool false, .bool false, .bool false], .agg #[.int .i64 (fmt n).g.rad, .int .i64 (fmt n).g.digs, .int .i64 (fmt n).g.lo, .int .i64 (fmt n).g.hi, .bool (fmt n).g.grad]] W (g0x W W.heap.size r.x 0))
 holds : r.cls = 2 → ∀ W p c b, Own W b .u32 141 p c (dig B32 r.x.m) → TabW W → Hid (Calls Tryz.prog 45 #[.agg #[.bool r.x.neg, .slice p (dig B32 r.x.m).length c, .int .i64 r.x.e], .agg #[.int .i64 (fmt n).g.rad, .int .i64 (fmt n).g.digs, .int .i64 (fmt n).g.lo, .int .i64 (fmt n).g.hi, .bool (fmt n).g.grad]] W fun en w' => en = .returned (.tuple #[.bool true, .int .i64 0]) ∧ Below W.heap.size W w')
theorem i1r {n : Int} {o : ByteArray} (h : IsFm n ∧ ∃ r, ResF (fmt n) r ∧ o = strR n r) : ∃ r v, TopV n o r v := by
 obtain ⟨hn, r, R, rfl⟩ := h
 have G := b0m hn
 have GG := b0s G.g
 obtain ⟨hp, hr⟩ := e1j hn R
 have V := v0a hp
 have O := (b0h (s := strR n r) hn).ok
 rw [hr] at V O
 obtain ⟨n1, n2⟩ := f1s R V none 0
 have hE : errD r.x = 0 := by
  have := O.len
  have := O.lo
  have := O.hi
  unfold errD; rw [if_neg (by omega), if_neg (by omega)]
 refine ⟨r, decP n (strR n r), V.cls, fun W hT => Lib.hid ?_, fun W p c b ho hT => Lib.hid ?_, fun W => Lib.hid ?_, fun h2 W p c b ho hT => Lib.hid ?_, fun h2 W p c b ho hT => Lib.hid ?_⟩
 · have := h0q n (strR n r) W hT
   rwa [hp] at this
 · have h1 := k0j n ((decP n (strR n r)).cls : Nat) (dinV (decP n (strR n r)) p c) W (a1w ho V.len) hT
   have e0 : k0i n ((decP n (strR n r)).cls : Nat) (dinV (decP n (strR n r)) p c) = 0 := by unfold k0i; rw [if_pos hn]; exact n1
   have e1 : k0q (fmt n) ((decP n (strR n r)).cls : Nat) (dinV (decP n (strR n r)) p c) = strR n r := n2
   unfold m0n at h1
   rw [e0, e1, if_pos rfl] at h1
   exact h1
 · have := d1u n W
   rwa [show g0u n = 0 by unfold g0u; rw [if_pos hn]] at this
 · have h1 := t0c ⟨(decP n (strR n r)).neg, p, c, dig B32 (decP n (strR n r)).d, (decP n (strR n r)).pow, false, false, false⟩ (fmt n).g W ⟨ho.rd, ho.le_cap, by have := V.len; show (dig B32 _).length ≤ _; omega, c0o a0b _⟩ hT
   have e0 : g0c ⟨(decP n (strR n r)).neg, p, c, dig B32 (decP n (strR n r)).d, (decP n (strR n r)).pow, false, false, false⟩ (fmt n).g = 0 := by
    have := V.len
    have := V.lo
    have := V.hi
    unfold g0c
    simp only
    rw [if_neg (by rw [g0q (by omega)]; decide), if_neg (by rw [G.g]; decide), if_neg (by omega)]
   have e1 : numV ⟨(decP n (strR n r)).neg, p, c, dig B32 (decP n (strR n r)).d, (decP n (strR n r)).pow, false, false, false⟩ (fmt n).g = r.x := by
    unfold numV
    simp only [b0k a0b]
    exact V.num h2
   rw [e0, e1] at h1
   unfold s0u z0x i0l at h1
   rw [if_pos rfl, if_pos rfl, if_pos hE, hE] at h1
   exact h1
 · obtain ⟨i1, i2, i3, i4⟩ := R.c2 h2
   have hl := O.len
   have hlo := O.lo
   have hhi := O.hi
   have h1 := b1p ⟨r.x.neg, p, c, dig B32 r.x.m, r.x.e⟩ (fmt n).g W ⟨ho.rd, ho.le_cap, by show (dig B32 _).length ≤ _; omega, c0o a0b _⟩ hT
   have hv : dyV ⟨r.x.neg, p, c, dig B32 r.x.m, r.x.e⟩ = r.x := by
    unfold dyV
    rw [b0k a0b]
    exact o0i i2
   have e0 : g0t ⟨r.x.neg, p, c, dig B32 r.x.m, r.x.e⟩ = 0 := by
    unfold g0t
    simp only
    rw [g0q (by omega), if_pos rfl, if_neg (by omega)]
   have e1 : m0z ⟨r.x.neg, p, c, dig B32 r.x.m, r.x.e⟩ (fmt n).g = 0 := by unfold m0z; rw [if_pos e0, G.g]
   have e2 : v0e ⟨r.x.neg, p, c, dig B32 r.x.m, r.x.e⟩ (fmt n).g = true := by
    unfold v0e
    rw [e1, hv, u0l i2 GG, i1]; rfl
   rw [e1, e2] at h1
   exact h1
theorem t0k (g : Gd) (hg : g = ⟨2, 3, -5, 5, true⟩) : a0s false 9 1 0 g 1 = ⟨false, 4, 1, false, false, false⟩ := by
 subst hg
 unfold a0s
 rw [if_neg (by omega)]
 have hK : IsK 9 1 0 1 3 1 := by
  constructor
  · unfold f0m qP numP denP; decide
  · unfold f0m qP numP denP; decide
 have e1 : theK 9 1 0 1 3 = 1 := z0i (by omega) (by omega) (by omega) (by omega) hK
 have h := i0t (neg := false) (num := 9) (den := 1) (e := 0) (w := 1) (D := 3) (way := 1) (k := 1) (X := 4) (N := 2) (ub := false) (by decide) (by decide) (by decide)
 have e2 := z0h (neg := false) (num := 9) (den := 1) (e := 0) (g := ⟨2, 3, -5, 5, true⟩) (way := 1) (K := 1) (wd := 1) (D := 3) (k1 := 1) (by rfl) (by rfl) (by decide) h.1 h.2 (Y := 1) (by decide)
 show fitK false 9 1 0 ⟨2, 3, -5, 5, true⟩ 1 (theK 9 1 0 1 3) = _
 rw [e1, e2]
 simp
theorem t0l {k : Nat} (h0 : 0 < k) (h : k < 4294967296) : dig B32 k = [k] := by rw [f0c a0b h0, show k / B32 = 0 by unfold B32; omega, a0f, show k % B32 = k by unfold B32; omega]
theorem p0t {w : World} {b k : Nat} (h : Bx w b #[.int .u32 (k : Int)]) : Rd w .u32 (some ⟨b, 0, none⟩) [k] := by
 refine ⟨fun _ => ⟨rfl, rfl⟩, fun j hj => ?_⟩
 obtain rfl : j = 0 := by simp at hj; omega
 exact h.e1
theorem n0y {k : Nat} (hk : 0 < k) : a0u [k] = 0 := by
 unfold a0u
 rw [if_neg, if_neg (by simp)]
 rintro ⟨_, h2⟩
 simp [dg] at h2
 omega
theorem p0u (w : World) :
 Calls Tryz.prog 34 #[] w fun e w' => e = .returned (.bool true) ∧ Below w.heap.size w w' := by
 obtain ⟨W1, hW1, hb1, hz1, G, N9, N1⟩ := lay3 w #[.int .i64 2, .int .i64 3, .int .i64 (-5), .int .i64 5, .bool true] 54 #[.int .u32 9] 141 #[.int .u32 1] 141
 have r9 := p0t (k := 9) N9
 have r1 := p0t (k := 1) N1
 have HR := a1i ⟨false, some ⟨w.heap.size + 1, 0, none⟩, 1, [9], some ⟨w.heap.size + 1 + 1, 0, none⟩, 1, [1], 0⟩ ⟨2, 3, -5, 5, true⟩ 1 W1 ⟨r9, by simp, by simp [B32], r1, by simp, by simp [B32]⟩
 have e0 : g0b ⟨false, some ⟨w.heap.size + 1, 0, none⟩, 1, [9], some ⟨w.heap.size + 1 + 1, 0, none⟩, 1, [1], 0⟩ = 0 := by
  unfold g0b
  simp only [n0y (show 0 < 9 by omega), n0y (show 0 < 1 by omega)]
  simp
 have e1 : d0j ⟨false, some ⟨w.heap.size + 1, 0, none⟩, 1, [9], some ⟨w.heap.size + 1 + 1, 0, none⟩, 1, [1], 0⟩ ⟨2, 3, -5, 5, true⟩ 1 = 0 := by
  unfold d0j
  rw [e0]
  decide
 have e2 : k0f ⟨false, some ⟨w.heap.size + 1, 0, none⟩, 1, [9], some ⟨w.heap.size + 1 + 1, 0, none⟩, 1, [1], 0⟩ ⟨2, 3, -5, 5, true⟩ 1 = ⟨false, 4, 1, false, false, false⟩ := by
  unfold k0f
  rw [e1, if_pos rfl]
  simp only [val_cons, val_nil, Nat.mul_zero, Nat.add_zero]
  exact t0k _ rfl
 rw [e1, e2] at HR
 simp only [List.length_cons, List.length_nil, Nat.zero_add] at HR
 have HRR := hi0 HR
 have HW1 := hi0 hW1
 have d4 := t0l (show 0 < 4 by omega) (show 4 < 4294967296 by omega)
 have HD4 := hi0 d4
 clear HR hW1 e0 e1 e2 d4 r9 r1
 go_enter Tryz.func34, Tryz.ntmps34
 go_wp2_with fail
 rw [← HW1.out]
 ((with_reducible refine HRR.out.mono ?_))
 clear HRR HW1
 rintro e2 w2 ⟨p2, c2, rfl, ho2, hb2⟩
 simp only [HD4.out, List.length_cons, List.length_nil, Nat.zero_add] at ho2 ⊢
 have hs2 := hb1.trans (hb2.mono hb1.size)
 obtain ⟨W3, hW3, hb3, hz3, P, N4⟩ := lay2 w2 #[.bool false, .slice p2 1 c2, .int .i64 1, .bool false, .bool false, .bool false] 87 #[.int .u32 4] 141
 have r4 := p0t (k := 4) N4
 have ho3 := ho2.past hb3
 have Pn := f0j w2 #[.bool false, .slice p2 1 c2, .int .i64 1, .bool false, .bool false, .bool false] 87
 obtain ⟨Pn_0, Pn_1, Pn_2, Pn_3, Pn_4, Pn_5⟩ := Pn.e6
 obtain ⟨P_0, P_1, P_2, P_3, P_4, P_5⟩ := P.e6
 have HW3 := hi0 hW3
 clear hW3
 go_wp2_with fail
 rw [← HW3.out]
 clear Pn_0 Pn_1 Pn_2 Pn_3 Pn_4 Pn_5 P_0 P_1 P_2 P_3 P_4 P_5
 ((with_reducible refine (i0c p2 (some ⟨w2.heap.size + 1, 0, none⟩) 1 c2 1 1 [4] [4] _ ho3.rd r4 rfl rfl rfl (by simp)).mono ?_))
 rintro e4 w4 ⟨rfl, hb4⟩
 have P4 := P.past hb4
 obtain ⟨P_0, P_1, P_2, P_3, P_4, P_5⟩ := P4.e6
 go_wp2
 go_ret
 exact ⟨rfl, (hs2.trans (hb3.mono hs2.size)).trans (hb4.mono (Nat.le_trans hs2.size hb3.size))⟩
end Go.Proofs.YtmacohmclpnphaaGreatDoor
namespace Go.Slip
open Go.RowKit
end Go.Slip
namespace Go.Proofs.YtmacohmclpnphaaGreatDoor
open Go.RowKit Go.Slip
structure Wp where
 r : Vr
 p : Option Addr
 c : Nat
def Wp.cells (x : Wp) : List Value := [.int .i64 (x.r.cls : Int), .bool x.r.neg, .bool x.r.x.neg, .slice x.p (dig B16 x.r.x.m).length x.c, .int .i64 x.r.x.e]
theorem Wp.len (x : Wp) : x.cells.length = 5 := rfl
structure TnD (a : Dv) : Prop where
 len : (dig B32 a.m).length ≤ 40
 lo : -38000 ≤ a.e
 hi : a.e ≤ 38000
theorem VrOk.tn {r : Vr} (R : VrOk r) : TnD r.x := ⟨by have := R.len; omega, by have := R.lo; omega, by have := R.hi; omega⟩
theorem TnD.sm {a : Dv} (h : TnD a) : SmD a := ⟨by have := h.len; omega, by have := h.lo; omega, by have := h.hi; omega⟩
theorem t0m {m k : Nat} (h1 : 2 ^ k ≤ m) (h2 : m < 2 ^ (k + 1)) : blen m = k + 1 := by
 have a := (b0e m (k + 1)).2 h2
 have b : ¬ blen m ≤ k := fun h => by have := (b0e m k).1 h; omega
 omega
def oneS : ByteArray := b0a [63, 128, 0, 0]
def twoS : ByteArray := b0a [64, 0, 0, 0]
theorem i1s : a0w (fmt 1) oneS = 1065353216 := by
 unfold a0w oneS
 rw [g0p (by decide)]
 decide +kernel
theorem i1t : b0c 1 oneS = 0 := c0l.2 ⟨by decide, by unfold oneS; rw [j0t]; rfl⟩
theorem i1u : refD 1 oneS = ⟨2, false, ⟨false, 1, 0⟩⟩ := by
 unfold refD
 rw [i1s]
 have hd : (fmt 1).decN 1065353216 = ⟨2, 8388608, -23⟩ := by kernel_rfl
 have hg : (fmt 1).neg 1065353216 = false := by decide +kernel
 unfold Fm.refN Fm.vr
 rw [hd, hg]
 have ht : tz 8388608 = 23 := k0n 1 23 rfl
 have hw : wid (fmt 1).g = 1 := by decide
 unfold Dc.c bare
 simp [ht, hw]
theorem i1v : i0k ⟨false, 1, 0⟩ ⟨false, 1, 0⟩ = ⟨false, 1, 1⟩ := by
 rw [n0g _ _ (e := 0) (by decide) (by decide)]
 have hz : zOf ⟨false, 1, 0⟩ 0 + zOf ⟨false, 1, 0⟩ 0 = 2 := by decide
 rw [hz]
 have ht : tz 2 = 1 := k0n 1 1 rfl
 unfold norm ofZ bare
 simp [ht]
theorem i1w : (fmt 1).addM ⟨2, false, ⟨false, 1, 0⟩⟩ ⟨2, false, ⟨false, 1, 0⟩⟩ 1 = (⟨2, false, ⟨false, 1, 1⟩⟩, 0) := by
 have hK : theK 1 1 1 1 24 = -22 := by
  have h := s0r (m := 1) (by decide) 1 (w := 1) (D := 24) (by decide) (by decide)
  rw [show blen 1 = 1 from t0m (k := 0) (by decide) (by decide)] at h
  exact z0i (by decide) (by decide) (by decide) (by decide) h
 have hR : a0s false 1 1 1 (fmt 1).g 1 = ⟨false, 8388608, -22, true, false, false⟩ := by
  unfold a0s
  rw [if_neg (by decide), show wid (fmt 1).g = 1 from rfl, show (fmt 1).g.digs.toNat = 24 from rfl, hK]
  kernel_rfl
 have ht : tz 8388608 = 23 := k0n 1 23 rfl
 unfold Fm.addM
 rw [if_neg (by decide), if_neg (by decide)]
 unfold Fm.sumM
 rw [i1v, if_pos (by decide)]
 unfold Fm.numM
 rw [if_neg (by decide), hR]
 unfold Fm.placedM Fm.flP bare
 have hw : wid (fmt 1).g = 1 := by decide
 simp [ht, hw]
theorem i1x : strR 1 ⟨2, false, ⟨false, 1, 1⟩⟩ = twoS := by
 have hb : blen 1 = 1 := t0m (k := 0) (by decide) (by decide)
 have h24 : blen 8388608 = 24 := t0m (k := 23) (by decide) (by decide)
 have hs : c0b ⟨false, 1, 1⟩ (fmt 1).g = -22 := by
  unfold c0b upK topD
  simp only [hb]
  decide
 have hf : (fmt 1).fr ⟨false, 1, 1⟩ = 8388608 := by
  unfold Fm.fr
  rw [hs]
  decide
 have hn : (fmt 1).numP ⟨false, 1, 1⟩ = ⟨false, 128, 0⟩ := by
  unfold Fm.numP
  rw [hf, hs, h24]
  kernel_rfl
 have he : (fmt 1).encP 2 false ⟨false, 1, 1⟩ = ⟨false, 128, 0⟩ := hn
 have h2 : (fmt 1).strP ⟨false, 128, 0⟩ = [64, 0, 0, 0] := by decide +kernel
 unfold strR twoS
 simp only
 rw [he, h2]
theorem e1x : errR 1 1 [oneS, oneS] = 0 := by
 unfold errR errL errL errL
 rw [i1t]
 decide
theorem n0a (w : World) (hT : TabW w) : Calls Tryz.prog 12 #[] w fun en w' => en = .returned (.bool true) ∧ Below w.heap.size w w' := by
 have HA : ∀ W, TabW W → Hid (Calls Tryz.prog 37 #[.int .i64 1, .string oneS, .string oneS, .int .i64 1] W fun en w' => en = .returned (.tuple #[.string twoS, .int .i64 0, .int .i64 0]) ∧ Below W.heap.size W w') := by
  intro W h
  have := v0c 1 1 oneS oneS W h
  unfold c0m at this
  rw [e1x, i1u, i1w] at this
  simp only [i1x, if_true] at this
  exact hi0 this
 refine calls_of_wp Tryz.func12 rfl ?_
 refine b0d (a' := ⟨(us 26 []).toArray, []⟩) (by kernel_rfl) ?_
 refine yq ?_
 refine ye ?_
 refine ywv 0 rfl 5 (.slice (some ⟨w.heap.size, 0, none⟩) 4 4) #[.int .u8 63, .int .u8 128, .int .u8 0, .int .u8 0] 5 (fun V1 hbV1 hzV1 b5 => ?_)
 refine yv 0 rfl 6 (.string oneS) ?_ (h0p (p := some ⟨w.heap.size, 0, none⟩) (n := 4) (c := 4) (xs := [63, 128, 0, 0]) m0d s0v uStr (p0n b5) rfl (by kernel_rfl))
 refine yzt 1 ?_
 refine ye ?_
 replace hT := (hT.past hbV1)
 refine yc 2 rfl 10 ((HA V1 hT).out) (fun Gx hGx => ?_)
 rintro eV2 V2 ⟨rfl, hbV2⟩
 have hzV2 := hbV2.size
 refine ⟨_, rfl, hGx _ _ ?_⟩
 clear hGx Gx
 refine yzt 7 ?_
 refine ye ?_
 refine ywv 8 rfl 22 (.slice (some ⟨V2.heap.size, 0, none⟩) 4 4) #[.int .u8 64, .int .u8 0, .int .u8 0, .int .u8 0] 5 (fun V3 hbV3 hzV3 b22 => ?_)
 refine yv 0 rfl 23 (.string twoS) ?_ (h0p (p := some ⟨V2.heap.size, 0, none⟩) (n := 4) (c := 4) (xs := [64, 0, 0, 0]) m0d s0v uStr (p0n b22) rfl (by kernel_rfl))
 refine yv 0 rfl 24 (.bool true) ?_ (u0t (s := twoS) (by kernel_rfl) (by kernel_rfl))
 refine yzt 2 ?_
 refine wp_ret ?_
 repeat (first | with_reducible refine a0x ?_ | with_reducible refine a0r ?_)
 refine yret (.bool true) (res1 Tryz.results12 rvt) ?_
 exact ⟨rfl, (a0h (a0h hbV1 hbV2) hbV3)⟩
def chs (c : Int) (n : Nat) : Nat := ((if c < 0 then -(c + 1) else c) % (n : Int)).toNat
theorem w0x (i : Int) (n : Nat) (w : World) (hi : -9223372036854775808 ≤ i ∧ i ≤ 9223372036854775807) (hn : 0 < n) (hn2 : n ≤ 1000000000) :
 Calls Tryz.prog 36 #[.int .i64 i, .int .i64 n] w fun e w' => e = .returned (.int .i64 (chs i n : Nat)) ∧ w = w' := by
 by_cases h : i < 0
 · have hc : ((chs i n : Nat) : Int) = (-(i + 1)) % (n : Int) := by
    unfold chs; rw [if_pos h, Int.toNat_of_nonneg (Int.emod_nonneg _ (by omega))]
   have HC := hi0 hc
   clear hc
   go_enter Tryz.func36, Tryz.ntmps36
   go_wp2
   go_ret
   refine ⟨d0w ?_, rfl⟩
   rw [HC.out, ← Int.neg_tmod, Int.tmod_eq_emod_of_nonneg (by omega)]
 · have hc : ((chs i n : Nat) : Int) = i % (n : Int) := by
    unfold chs; rw [if_neg h, Int.toNat_of_nonneg (Int.emod_nonneg _ (by omega))]
   have HC := hi0 hc
   clear hc
   go_enter Tryz.func36, Tryz.ntmps36
   go_wp2
   go_ret
   exact ⟨d0w HC.out.symm, rfl⟩
theorem t0n (n : Int) (s t z : ByteArray) (way op : Int) (w : World) (hi : -9223372036854775808 ≤ op ∧ op ≤ 9223372036854775807) (hT : TabW w) : Calls Tryz.prog 8 #[.int .i64 n, .string s, .string t, .string z, .int .i64 way, .int .i64 op] w fun en w' => en = .returned (.bool true) ∧ Below w.heap.size w w' := by
 have HB1 := fun W h => hi0 (n0a W h)
 have HB2 := fun W => hi0 (p0u W)
 have HB3 := fun W h => hi0 (m0x W h)
 have HC := fun W => hi0 (stay (w0x op 6 W hi (by omega) (by omega)))
 obtain ⟨o1, l1, r1, t1, HA1⟩ := k0l (fun hn => r0i (b0m hn) (b0h hn) (b0h hn) way) (fun W h => v0c n way s t W h)
 obtain ⟨o2, l2, r2, t2, HA2⟩ := k0l (fun hn => r0i (b0m hn) (b0h hn) (i1m (b0h hn)) way) (fun W h => e1r n way s t W h)
 obtain ⟨o3, l3, r3, t3, HA3⟩ := k0l (fun hn => f1v (b0m hn) (b0h hn).inf (b0h hn).inf way) (fun W h => e1m n way s t W h)
 obtain ⟨o4, l4, r4, t4, HA4⟩ := k0l (fun hn => f1w (b0m hn) (b0h hn).inf (b0h hn).ok way) (fun W h => e1o n way s t W h)
 obtain ⟨o5, l5, r5, t5, HA5⟩ := k0l (fun hn => v0b (b0m hn) (b0h hn).inf (b0h hn).inf (b0h hn) way) (fun W h => w0u n way s t z W h)
 obtain ⟨o6, l6, r6, t6, HA6⟩ := k0l (fun hn => b1m (b0m hn) (b0h hn) way) (fun W h => b1o n way s W h)
 generalize chs op 6 = c at *
 have I := Inv.start w [tabF] ⟨hT, True.intro⟩
 refine a0g [.v (.int .i64 n), .v (.string s), .v (.string t), .v (.string z), .v (.int .i64 way), .v (.int .i64 op)] I Tryz.func8 ?_
 refine zq I (fun Al W I => (HB1 W I.fa.1).out) fun Al W I => ?_
 refine zq I (fun Al W I => (HB2 W).out) fun Al W I => ?_
 refine zq I (fun Al W I => (HB3 W I.fa.1).out) fun Al W I => ?_
 refine zq I (fun Al W I => (HC W).out) fun Al W I => ?_
 refine zcut I (some 1000000) (fun fr bx gs => ∃ (U1 : Nat → Value) (so : ByteArray) (er : Int), fr = (.v (.int .i64 n) :: .v (.string s) :: .v (.string t) :: .v (.string z) :: .v (.int .i64 way) :: .v (.int .i64 op) :: su 6 (.v (.bool false) :: .v (.string so) :: .v (.int .i64 er) :: su 7 (sw U1 22 9 (.v (.bool false) :: .v (U1 32) :: .v (.int .i64 (c : Int)) :: sw U1 34 65 (.v undef :: sw U1 100 33 (.v undef :: sw U1 134 2 (.v undef :: sw U1 137 27 [])))))) : List SV) ∧ bx = [] ∧ gs = [tabF] ∧ (TopP n so er)) ?_ ?_
 · intro J hJ Al W I
   rcases Bool.eq_false_or_eq_true ((c : Int) == 0) with f43 | f43
   · refine zb I 43 ((c : Int) == 0) (true) (f43) fun Al W I => ?_
     refine zq I (fun Al W I => (HA1 W I.fa.1).out) fun Al W I => ?_
     exact a0m I J fun Al W U I => hJ _ _ _ _ _ ⟨U, o1, r1, rfl, rfl, rfl, t1⟩ (I.pick [0])
   refine zb I 43 ((c : Int) == 0) (false) (f43) fun Al W I => ?_
   rcases Bool.eq_false_or_eq_true ((c : Int) == 1) with f54 | f54
   · refine zb I 54 ((c : Int) == 1) (true) (f54) fun Al W I => ?_
     refine zq I (fun Al W I => (HA2 W I.fa.1).out) fun Al W I => ?_
     exact a0m I J fun Al W U I => hJ _ _ _ _ _ ⟨U, o2, r2, rfl, rfl, rfl, t2⟩ (I.pick [0])
   refine zb I 54 ((c : Int) == 1) (false) (f54) fun Al W I => ?_
   rcases Bool.eq_false_or_eq_true ((c : Int) == 2) with f65 | f65
   · refine zb I 65 ((c : Int) == 2) (true) (f65) fun Al W I => ?_
     refine zq I (fun Al W I => (HA3 W I.fa.1).out) fun Al W I => ?_
     exact a0m I J fun Al W U I => hJ _ _ _ _ _ ⟨U, o3, r3, rfl, rfl, rfl, t3⟩ (I.pick [0])
   refine zb I 65 ((c : Int) == 2) (false) (f65) fun Al W I => ?_
   rcases Bool.eq_false_or_eq_true ((c : Int) == 3) with f76 | f76
   · refine zb I 76 ((c : Int) == 3) (true) (f76) fun Al W I => ?_
     refine zq I (fun Al W I => (HA4 W I.fa.1).out) fun Al W I => ?_
     exact a0m I J fun Al W U I => hJ _ _ _ _ _ ⟨U, o4, r4, rfl, rfl, rfl, t4⟩ (I.pick [0])
   refine zb I 76 ((c : Int) == 3) (false) (f76) fun Al W I => ?_
   rcases Bool.eq_false_or_eq_true ((c : Int) == 4) with f87 | f87
   · refine zb I 87 ((c : Int) == 4) (true) (f87) fun Al W I => ?_
     refine zq I (fun Al W I => (HA5 W I.fa.1).out) fun Al W I => ?_
     exact a0m I J fun Al W U I => hJ _ _ _ _ _ ⟨U, o5, r5, rfl, rfl, rfl, t5⟩ (I.pick [0])
   refine zb I 87 ((c : Int) == 4) (false) (f87) fun Al W I => ?_
   refine zq I (fun Al W I => (HA6 W I.fa.1).out) fun Al W I => ?_
   exact a0m I J fun Al W U I => hJ _ _ _ _ _ ⟨U, o6, r6, rfl, rfl, rfl, t6⟩ (I.pick [0])
 rintro _ _ _ ⟨U1, so, er, rfl, rfl, rfl, hTo⟩ Al W I
 rcases Bool.eq_false_or_eq_true (er != 0) with f99 | f99
 · refine zb I 99 (er != 0) (true) (f99) fun Al W I => ?_
   refine zbin I 101 _ (fun _ _ _ _ _ => c1n (hTo.1 (bne_iff_ne.1 f99))) fun Al W I => ?_
   exact zrb I
 refine zb I 99 (er != 0) (false) (f99) fun Al W I => ?_
 obtain ⟨r, v, V⟩ := i1r (hTo.2 (bne_eq_false_iff_eq.1 f99))
 refine zqo I (fun Al W I => (V.dec W I.fa.1).out) fun Al W p105 c105 I => ?_
 refine zq I (fun Al W I => (V.enc W p105 c105 _ I.fa.1 I.fa.2.1).out) fun Al W I => ?_
 refine zq I (fun Al W I => (V.grid W).out) fun Al W I => ?_
 refine zbin I 132 _ (fun _ _ _ _ _ => g1z so) fun Al W I => ?_
 rcases Bool.eq_false_or_eq_true ((v.cls : Int) != 2) with f136 | f136
 · refine zb I 136 ((v.cls : Int) != 2) (true) (f136) fun Al W I => ?_
   exact zrb I
 refine zb I 136 ((v.cls : Int) != 2) (false) (f136) fun Al W I => ?_
 have h2 : r.cls = 2 := by have := bne_eq_false_iff_eq.1 f136; have := V.cls; omega
 refine zqo I (fun Al W I => (V.num h2 W p105 c105 _ I.fa.1 I.fa.2.1).out) fun Al W p146 c146 I => ?_
 refine zq I (fun Al W I => (V.holds h2 W p146 c146 _ I.fa.1 I.fa.2.2.1).out) fun Al W I => ?_
 exact zrb I
end Go.Proofs.YtmacohmclpnphaaGreatDoor
