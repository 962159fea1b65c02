/- arith: what a value at hand is; Number, raw, lost. -/
import Derived.Deep.LoopGhost
import Derived.Deep.RegionHeld3
import Derived.Lib.Strings
import Derived.Lib.Slices
import Derived.Lib.Small
import Derived.Lib.Walk
import Derived.Lib.BitFns
import Derived.Carry
import Derived.Test.YtmacohmclpnphaaDoorYa1
import Derived.Test.YtmacohmclpnphaaDoorYa2
import Derived.Test.YtmacohmclpnphaaDoorYa3
import Derived.Test.YtmacohmclpnphaaDoorYa4
import Derived.Test.YtmacohmclpnphaaDoorYa5
import Derived.Test.YtmacohmclpnphaaDoorYa6
set_option maxHeartbeats 8000000
set_option maxRecDepth 100000
namespace Go.Proofs.YtmacohmclpnphaaDoor
open Go.RowKit Go.Slip
structure VrOk (r : Vr) : Prop where
 c : 1 ≤ r.cls ∧ r.cls ≤ 5
 x0 : r.cls ≠ 2 → r.x = vz
 x2 : r.cls = 2 → r.x.m ≠ 0 ∧ r.x.neg = r.neg
 bare : Bare r.x
 len : (dig B32 r.x.m).length ≤ 20
 lo : -18000 ≤ r.x.e
 hi : r.x.e ≤ 18000
def d0q (f : Fm) (n way : Int) (u : Nat) (w : World) (base : Nat) (r : Vr × Nat) (en : Ending) (w' : World) : Prop :=
 ∃ v, VRep f v r.1 ∧ h0a f n way ((r.2 : Nat) : Int) u w base v en w'
theorem a0f {f : Fm} {n way : Int} {u k fl base : Nat} {g : Bool} {x : Dv} {w w' : World} {en : Ending} (hk2 : k ≠ 2) (h : en = .returned (.agg #[.int .i64 (k : Int), .bool g, .slice none 0 0, .int .i64 0])) (hk : Kp [u] w w') (hb : Bt w' u 153 #[.int .i64 n, .int .i64 way, .int .i64 f.g.rad, .int .i64 f.g.digs, .int .i64 f.g.lo, .int .i64 f.g.hi, .bool f.g.grad, .int .u8 (famB f), .int .i64 (fl : Int)]) : d0q f n way u w base (⟨k, g, x⟩, fl) en w' :=
 ⟨⟨k, g, 0, 0⟩, d0x hk2, e0i h hk hb⟩
theorem d0q.mono {f : Fm} {n way : Int} {u base b' : Nat} {w w' : World} {r : Vr × Nat} {en : Ending} (h : d0q f n way u w base r en w') (hb : b' ≤ base) : d0q f n way u w b' r en w' := by
 obtain ⟨v, h1, p, k, h2, h3, h4, h5⟩ := h
 exact ⟨v, h1, p, k, h2, h3.mono hb, h4, h5⟩
theorem q0d (f : Fm) (n way fl : Int) (v : Vl) (r : Vr) (p : Option Addr) (c b0 u : Nat) (w : World) (U : Bt w u 153 #[.int .i64 n, .int .i64 way, .int .i64 f.g.rad, .int .i64 f.g.digs, .int .i64 f.g.lo, .int .i64 f.g.hi, .bool f.g.grad, .int .u8 (famB f), .int .i64 fl]) (hp : Own w b0 .u32 76 p c (dig B32 v.d)) (V : VRep f v r) (R : VrOk r) (hT : TabW w) :
 Calls Tryd.prog 106 #[.pointer (some ⟨u, 0, none⟩), .agg #[.int .i64 (v.cls : Int), .bool v.neg, .slice p (dig B32 v.d).length c, .int .i64 v.pow]] w (e0a w w.heap.size r.x) := by
 have hx : bare ⟨v.neg, v.d, wid f.g * v.pow⟩ = r.x := by
  by_cases h2 : r.cls = 2
  · exact V.num h2
  · rw [R.x0 h2, (V.oth h2).1]; rfl
 have hl := V.len
 have hlo := V.lo
 have hhi := V.hi
 have wp := b0g f.g
 have hmu := r0n (wd := wid f.g) (k := v.pow) (B := 20000) wp.2 ⟨hlo, hhi⟩
 rw [← hx, ← o0n]
 clear hx R V
 obtain ⟨cls, g, d0, pw⟩ := v
 simp only at *
 generalize hmw : (wid f.g : Int) * pw = mw at *
 have HMW := hi0 hmw
 have HW := fun W u hU => hi0 (w0z f n way fl u W hU)
 have HH := fun W (c : Nat) h1 h0 h2 => hi0 (o0j p _ c mw d0 W h1 rfl h0 (by omega) (by omega) h2)
 clear hmw
 generalize hd : bare ⟨false, d0, mw⟩ = d at *
 clear hd
 cases g with
 | false =>
  rw [if_neg (by simp)]
  have I := Inv.startR w [u] [⟨153, (uS f n way fl), true⟩] [ownF b0 .u32 76 p c (dig B32 d0), tabF] ⟨U, True.intro⟩ ⟨hp, hT, True.intro⟩
  refine a0d [.p 0 0, .v (.agg #[.int .i64 (cls : Int), .bool false, .slice p (dig B32 d0).length c, .int .i64 pw])] I Tryd.func106 ?_
  refine zcut I none (fun fr bx gs => ∃ (U1 : Nat → Value) (p13 : Option Addr) (c13 : Nat), fr = (.p 0 0 :: .v (.agg #[.int .i64 (cls : Int), .bool false, .slice p (dig B32 d0).length c, .int .i64 pw]) :: .v undef :: .p 1 0 :: .p 2 0 :: .p 3 0 :: sw U1 6 9 (.v undef :: sw U1 16 3 []) : List SV) ∧ bx = [⟨153, (uS f n way fl), true⟩, ⟨29, [.v (.int .i64 (cls : Int)), .v (.bool false), .v (.slice p (dig B32 d0).length c), .v (.int .i64 pw)], false⟩, ⟨87, [.v (.bool false), .v (.slice none 0 0), .v (.int .i64 0)], false⟩, ⟨87, [.v (.bool d.neg), .v (.slice p13 (dig B32 d.m).length c13), .v (.int .i64 d.e)], false⟩] ∧ gs = [ownF w.heap.size .u32 76 p13 c13 (dig B32 d.m), ownF b0 .u32 76 p c (dig B32 d0), tabF]) ?_ ?_
  · intro J hJ Al W I
    refine zd [] I fun Al W I => ?_
    refine zk [0, 1, 2, 4, 5] I fun I => ?_
    refine zo2 3 8 I (fun I => ?_) (fun I => ?_)
    · refine zq I (fun Al W I => (HW W _ (I.box 0 153 _)).out) fun Al W I => ?_
      refine zki 6 I .i64 (((wid f.g : Nat) : Int) * pw) (mw) ((by rw [HMW.out]; exact iwo)) fun I => ?_
      refine zo2 7 8 I (fun I => ?_) (fun I => ?_)
      · refine zqo I (fun Al W I => (HH W c I.fa.1.rd I.fa.1.le_cap I.fa.2.1).out) fun Al W p13 c13 I => ?_
        refine zo 8 I fun I => ?_
        refine zn I fun Al W I => ?_
        refine zo 9 I fun I => ?_
        refine zn I fun Al W I => ?_
        exact b0f I J fun Al W U I => hJ _ _ _ _ _ ⟨U, p13, c13, rfl, rfl, rfl⟩ (I.pick [0, 1, 2])
      refine zn I fun Al W I => ?_
      refine zo 7 I fun I => ?_
      refine zqo I (fun Al W I => (HH W c I.fa.1.rd I.fa.1.le_cap I.fa.2.1).out) fun Al W p13 c13 I => ?_
      refine zo 9 I fun I => ?_
      refine zn I fun Al W I => ?_
      exact b0f I J fun Al W U I => hJ _ _ _ _ _ ⟨U, p13, c13, rfl, rfl, rfl⟩ (I.pick [0, 1, 2])
    refine zn I fun Al W I => ?_
    refine zo 3 I fun I => ?_
    refine zq I (fun Al W I => (HW W _ (I.box 0 153 _)).out) fun Al W I => ?_
    refine zki 6 I .i64 (((wid f.g : Nat) : Int) * pw) (mw) ((by rw [HMW.out]; exact iwo)) fun I => ?_
    refine zo 7 I fun I => ?_
    refine zqo I (fun Al W I => (HH W c I.fa.1.rd I.fa.1.le_cap I.fa.2.1).out) fun Al W p13 c13 I => ?_
    refine zo 9 I fun I => ?_
    refine zn I fun Al W I => ?_
    exact b0f I J fun Al W U I => hJ _ _ _ _ _ ⟨U, p13, c13, rfl, rfl, rfl⟩ (I.pick [0, 1, 2])
  rintro _ _ _ ⟨U1, p13, c13, rfl, rfl, rfl⟩ Al W I
  exact zret I fun Al W I => ⟨p13, c13, rfl, I.fa.1.mono (by omega), I.below⟩
 | true =>
  rw [if_pos rfl]
  have I := Inv.startR w [u] [⟨153, (uS f n way fl), true⟩] [ownF b0 .u32 76 p c (dig B32 d0), tabF] ⟨U, True.intro⟩ ⟨hp, hT, True.intro⟩
  refine a0d [.p 0 0, .v (.agg #[.int .i64 (cls : Int), .bool true, .slice p (dig B32 d0).length c, .int .i64 pw])] I Tryd.func106 ?_
  refine zcut I none (fun fr bx gs => ∃ (U1 : Nat → Value) (p13 : Option Addr) (c13 : Nat), fr = (.p 0 0 :: .v (.agg #[.int .i64 (cls : Int), .bool true, .slice p (dig B32 d0).length c, .int .i64 pw]) :: .v undef :: .p 1 0 :: .p 2 0 :: .p 3 0 :: sw U1 6 9 (.v undef :: sw U1 16 3 []) : List SV) ∧ bx = [⟨153, (uS f n way fl), true⟩, ⟨29, [.v (.int .i64 (cls : Int)), .v (.bool true), .v (.slice p (dig B32 d0).length c), .v (.int .i64 pw)], false⟩, ⟨87, [.v (.bool false), .v (.slice none 0 0), .v (.int .i64 0)], false⟩, ⟨87, [.v (.bool d.neg), .v (.slice p13 (dig B32 d.m).length c13), .v (.int .i64 d.e)], false⟩] ∧ gs = [ownF w.heap.size .u32 76 p13 c13 (dig B32 d.m), ownF b0 .u32 76 p c (dig B32 d0), tabF]) ?_ ?_
  · intro J hJ Al W I
    refine zd [] I fun Al W I => ?_
    refine zk [0, 1, 2, 4, 5] I fun I => ?_
    refine zo2 3 8 I (fun I => ?_) (fun I => ?_)
    · refine zq I (fun Al W I => (HW W _ (I.box 0 153 _)).out) fun Al W I => ?_
      refine zki 6 I .i64 (((wid f.g : Nat) : Int) * pw) (mw) ((by rw [HMW.out]; exact iwo)) fun I => ?_
      refine zo2 7 8 I (fun I => ?_) (fun I => ?_)
      · refine zqo I (fun Al W I => (HH W c I.fa.1.rd I.fa.1.le_cap I.fa.2.1).out) fun Al W p13 c13 I => ?_
        refine zo 8 I fun I => ?_
        refine zn I fun Al W I => ?_
        refine zo 9 I fun I => ?_
        refine zn I fun Al W I => ?_
        exact b0f I J fun Al W U I => hJ _ _ _ _ _ ⟨U, p13, c13, rfl, rfl, rfl⟩ (I.pick [0, 1, 2])
      refine zn I fun Al W I => ?_
      refine zo 7 I fun I => ?_
      refine zqo I (fun Al W I => (HH W c I.fa.1.rd I.fa.1.le_cap I.fa.2.1).out) fun Al W p13 c13 I => ?_
      refine zo 9 I fun I => ?_
      refine zn I fun Al W I => ?_
      exact b0f I J fun Al W U I => hJ _ _ _ _ _ ⟨U, p13, c13, rfl, rfl, rfl⟩ (I.pick [0, 1, 2])
    refine zn I fun Al W I => ?_
    refine zo 3 I fun I => ?_
    refine zq I (fun Al W I => (HW W _ (I.box 0 153 _)).out) fun Al W I => ?_
    refine zki 6 I .i64 (((wid f.g : Nat) : Int) * pw) (mw) ((by rw [HMW.out]; exact iwo)) fun I => ?_
    refine zo 7 I fun I => ?_
    refine zqo I (fun Al W I => (HH W c I.fa.1.rd I.fa.1.le_cap I.fa.2.1).out) fun Al W p13 c13 I => ?_
    refine zo 9 I fun I => ?_
    refine zn I fun Al W I => ?_
    exact b0f I J fun Al W U I => hJ _ _ _ _ _ ⟨U, p13, c13, rfl, rfl, rfl⟩ (I.pick [0, 1, 2])
  rintro _ _ _ ⟨U1, p13, c13, rfl, rfl, rfl⟩ Al W I
  refine zq I (fun Al W I => w0k d.neg p13 _ c13 d.e d.m W rfl) fun Al W I => ?_
  exact zret I fun Al W I => ⟨p13, c13, rfl, I.fa.1.mono (by omega), I.below⟩
theorem f1w (f : Fm) (n way : Int) (u : Nat) (w : World) (U : Bt w u 153 #[.int .i64 n, .int .i64 way, .int .i64 f.g.rad, .int .i64 f.g.digs, .int .i64 f.g.lo, .int .i64 f.g.hi, .bool f.g.grad, .int .u8 (famB f), .int .i64 0]) (fl : Nat) (b : Int) (hc : bits .or .i64 0 b = (fl : Nat)) :
 Calls Tryd.prog 110 #[.pointer (some ⟨u, 0, none⟩), .int .i64 b] w (d0q f n way u w w.heap.size (f.nothM, fl)) := by
 have HR := fun W u hU => hi0 (b0u f n way 0 b (fl : Nat) u W hU hc)
 have HN := fun W u hU => hi0 (h0u f n way (fl : Nat) u W hU)
 have hk : f.nothM.cls ≠ 2 := by unfold Fm.nothM; simp only; split <;> (try split) <;> omega
 have e : f.nothM = ⟨f.nothM.cls, false, vz⟩ := rfl
 rw [e]
 generalize f.nothM.cls = k at *
 have I := Inv.startW w u 153 (uS f n way 0) [] U True.intro True.intro
 refine a0d [.p 0 0, .v (.int .i64 b)] I Tryd.func110 ?_
 refine zge I 0 153 (fun Al W I => (HR W _ (I.box 0 153 _)).out) fun Al V Iv _ _ kz => ?_
 rintro _ W ⟨rfl, hO, hB⟩
 refine ⟨_, rfl, kz _ (uS f n way (fl : Int)) _ hO hB fun I => ?_⟩
 refine zq I (fun Al W I => (HN W _ (I.box 0 153 _)).out) fun Al W I => ?_
 exact zret I fun Al W I => a0f hk rfl I.bel (I.boxE 153 _)
theorem r0t (f : Fm) (n way : Int) (x : Dv) (p : Option Addr) (c u : Nat) (w : World) (U : Bt w u 153 #[.int .i64 n, .int .i64 way, .int .i64 f.g.rad, .int .i64 f.g.digs, .int .i64 f.g.lo, .int .i64 f.g.hi, .bool f.g.grad, .int .u8 (famB f), .int .i64 0]) (hp : Rd w .u32 p (dig B32 x.m))
 (hl : (dig B32 x.m).length ≤ 100000) (he : -1000000 ≤ x.e ∧ x.e ≤ 1000000) (G : b0r f) (hw : 1 ≤ way ∧ way ≤ 5) :
 Calls Tryd.prog 115 #[.pointer (some ⟨u, 0, none⟩), .agg #[.bool x.neg, .slice p (dig B32 x.m).length c, .int .i64 x.e]] w (d0q f n way u w w.heap.size (f.numM x way)) := by
 have hs : e0e ⟨x.neg, x.m, x.e⟩ = e0e x := rfl
 have HS := fun W => hi0 (c0k x.neg p _ c x.e x.m W rfl)
 rw [hs] at HS
 have h0 := k0m x
 by_cases hx : x.m = 0
 · have hn : f.numM x way = (⟨1, false, vz⟩, 0) := by unfold Fm.numM Fm.zeroM; rw [if_pos hx]; simp
   rw [hn]
   have HZ := fun W u hU => hi0 (r0p f n way 0 false u W hU)
   rw [Bool.false_and] at HZ
   have hd := h0.2 hx
   generalize e0e x = sx at *
   have I := Inv.startW w u 153 (uS f n way 0) [rdF .u32 p (dig B32 x.m)] U ⟨hp, True.intro⟩ ⟨fun hf => hp.far U (by kernel_rfl) hf.1 hf.2, True.intro⟩
   refine a0d [.p 0 0, .v (.agg #[.bool x.neg, .slice p (dig B32 x.m).length c, .int .i64 x.e])] I Tryd.func115 ?_
   refine zq I (fun Al W I => (HS W).out) fun Al W I => ?_
   refine zb I 7 (sx == 0) (true) (beq_iff_eq.2 hd) fun Al W I => ?_
   refine zq I (fun Al W I => (HZ W _ (I.box 0 153 _)).out) fun Al W I => ?_
   exact zret I fun Al W I => a0f (k := 1) (by decide) rfl I.bel (I.boxE 153 _)
 · have hn : f.numM x way = f.placedM (a0s x.neg x.m 1 x.e f.g way) way := by unfold Fm.numM; rw [if_neg hx]
   rw [hn]
   have hd : e0e x ≠ 0 := fun h => hx (h0.1 h)
   have l1 : (dig B32 1).length ≤ 1 := by rw [a0i a0a]; unfold B32; omega
   have HF := fun p q c d u W U h1 h2 => hi0 (g1y f n way x.neg p q c d x.m 1 x.e u W U h1 h2 hl (by omega) (by omega) (by omega) he G hw)
   have HV := (l0q G (neg := x.neg) (num := x.m) (den := 1) (e := x.e) (way := way) (by omega)).2
   have hm : f.placedM (a0s x.neg x.m 1 x.e f.g way) way = ((f.placedM (a0s x.neg x.m 1 x.e f.g way) way).1, (f.placedM (a0s x.neg x.m 1 x.e f.g way) way).2) := rfl
   rw [hm]
   generalize (f.placedM (a0s x.neg x.m 1 x.e f.g way) way).1 = r at *
   generalize (f.placedM (a0s x.neg x.m 1 x.e f.g way) way).2 = fl at *
   generalize f.placedV (a0s x.neg x.m 1 x.e f.g way) way = v at *
   generalize e0e x = sx at *
   have I := Inv.startW w u 153 (uS f n way 0) [rdF .u32 p (dig B32 x.m)] U ⟨hp, True.intro⟩ ⟨fun hf => hp.far U (by kernel_rfl) hf.1 hf.2, True.intro⟩
   refine a0d [.p 0 0, .v (.agg #[.bool x.neg, .slice p (dig B32 x.m).length c, .int .i64 x.e])] I Tryd.func115 ?_
   refine zq I (fun Al W I => (HS W).out) fun Al W I => ?_
   refine zb I 7 (sx == 0) (false) (bFn hd) fun Al W I => ?_
   refine zd [0, 2] I fun Al W I => ?_
   refine zk [0, 1, 2, 3, 4, 5, 6, 8, 9, 10] I fun I => ?_
   refine zo 7 I fun I => ?_
   refine zqo I (fun Al W I => have hzW := I.bel.size; sof 1 1 rfl (by omega) W) fun Al W p17 c17 I => ?_
   refine zk [11] I fun I => ?_
   refine zo 12 I fun I => ?_
   refine zge I 0 153 (fun Al W I => (HF p p17 c c17 _ W (I.box 0 153 _) I.fa.2.1 I.fa.1.rd).out) fun Al V Iv _ _ kz => ?_
   rintro _ W ⟨p22, c22, rfl, o22, hO, hB⟩
   refine ⟨_, rfl, kz _ (uS f n way (fl : Int)) _ hO hB fun I => ?_⟩
   have I := I.own o22
   refine zo 13 I fun I => ?_
   refine zn I fun Al W I => ?_
   exact zret I fun Al W I => ⟨v, HV, p22, c22, rfl, I.fa.1.mono (by omega), I.bel, I.boxE 153 _⟩
structure Vp where
 v : Vl
 p : Option Addr
 c : Nat
def Vp.cells (x : Vp) : List Value := [.int .i64 (x.v.cls : Int), .bool x.v.neg, .slice x.p (dig B32 x.v.d).length x.c, .int .i64 x.v.pow]
theorem Vp.len (x : Vp) : x.cells.length = 4 := rfl
theorem k0r : v0t Tryd.prog 101 29 4 48 := y0s (z := .agg #[.int .i64 0, .bool false, .slice none 0 0, .int .i64 0]) (by kernel_rfl) (by kernel_rfl) (by kernel_rfl) (by kernel_rfl) (by kernel_rfl)
theorem e0f : d0h Tryd.prog 29 4 := b0y (by kernel_rfl) (by kernel_rfl)
theorem x0i (f : Fm) (n way fl : Int) (xs : List Vp) (b m u : Nat) (w : World) (U : Bt w u 153 #[.int .i64 n, .int .i64 way, .int .i64 f.g.rad, .int .i64 f.g.digs, .int .i64 f.g.lo, .int .i64 f.g.hi, .bool f.g.grad, .int .u8 (famB f), .int .i64 fl]) (hB : Bt w b 29 (xs.flatMap Vp.cells).toArray) (hm : m = xs.length) (hl : xs.length ≤ 1000) (hno : ∀ x ∈ xs, x.v.cls < 4) :
 Calls Tryd.prog 108 #[.pointer (some ⟨u, 0, none⟩), .slice (some ⟨b, 0, none⟩) m m] w fun en w' => en = .returned (.tuple #[.agg #[.int .i64 0, .bool false, .slice none 0 0, .int .i64 0], .bool false]) ∧ Below w.heap.size w w' := by
 subst hm
 have HX : ∀ i, i < xs.length → ∃ x : Vp, xs[i]? = some x ∧ x.v.cls < 4 := fun i h => ⟨xs[i], List.getElem?_eq_getElem h, hno _ (List.getElem_mem h)⟩
 have I := Inv.startR w [u] [⟨153, (uS f n way fl), true⟩] [btF b 29 (xs.flatMap Vp.cells).toArray] ⟨U, True.intro⟩ ⟨hB, True.intro⟩
 refine a0d [.p 0 0, .v (.slice (some ⟨b, 0, none⟩) xs.length xs.length)] I Tryd.func108 ?_
 refine v0j I (fun gk fr bx gs => ∃ (U900 : Nat → Value) (i : Nat), fr = (.p 0 0 :: .v (.slice (some ⟨b, 0, none⟩) xs.length xs.length) :: su 2 (.p 1 0 :: .v (U900 5) :: .v undef :: .v (U900 7) :: .v (.slice (some ⟨b, 0, none⟩) xs.length xs.length) :: .v (.int .i64 (xs.length : Int)) :: .v (.int .i64 (i : Int)) :: sw U900 11 16 []) : List SV) ∧ bx = [⟨153, (uS f n way fl), true⟩, ⟨29, [.v (.int .i64 0), .v (.bool false), .v (.slice none 0 0), .v (.int .i64 0)], false⟩] ∧ gs = [btF b 29 (xs.flatMap Vp.cells).toArray] ∧ (gk + i = xs.length)) xs.length (fun Al W U I => ⟨_, ⟨U, 0, rfl, rfl, rfl, (by omega)⟩, I.pick [0]⟩) ?_
 rintro J gk0 _ _ _ ⟨U900, i, rfl, rfl, rfl, hgk⟩ hJ Al W I
 rcases Bool.eq_false_or_eq_true (decide ((i : Int) < (xs.length : Int))) with f11 | f11
 · refine zb I 11 (decide ((i : Int) < (xs.length : Int))) (true) (f11) fun Al W I => ?_
   obtain ⟨x, hx, hx4⟩ := HX i (by have := oTr f11; omega)
   refine zx I 12 (fun _ => .pointer (some (at_ (some ⟨b, 0, none⟩) (i * 4)))) (fun Al W I => (h0n (m := i) (n := xs.length) (c := xs.length) k0r (fun _ => ⟨rfl, rfl⟩) (by have := oTr f11; omega))) fun Al W I => ?_
   refine zx I 13 (fun _ => .agg #[.int .i64 (x.v.cls : Int), .bool x.v.neg, .slice x.p (dig B32 x.v.d).length x.c, .int .i64 x.v.pow]) (fun Al W I => (b1c I.fa.1 e0f x.cells (p0t Vp.len hx) rfl)) fun Al W I => ?_
   refine zqd I (fun Al W I => f0t x.v.cls x.v.neg x.p (dig B32 x.v.d).length x.c x.v.pow W) (show (decide (x.v.cls = 4) || decide (x.v.cls = 5)) = false from (by rw [decide_eq_false (by omega), decide_eq_false (by omega)]; rfl)) fun Al W I => ?_
   refine zi I 25 .i64 ((i : Int) + 1) (((i + 1 : Nat) : Int)) ((by rw [show ((i : Int) + 1) = ((i + 1 : Nat) : Int) by omega]; exact IntWalk.i64_in _ (by have := oTr f11; omega))) fun Al W I => ?_
   exact r0i 2 I J fun Al W U I => hJ (gk0 - 1) _ _ _ _ _ ((by have := oTr f11; omega)) ⟨U, i + 1, rfl, rfl, rfl, (by have := oTr f11; omega)⟩ (I.pick [0])
 refine zb I 11 (decide ((i : Int) < (xs.length : Int))) (false) (f11) fun Al W I => ?_
 exact zrb I
theorem q0e (f : Fm) (n way : Int) (xs : List Vp) (b m u : Nat) (w : World) (U : Bt w u 153 #[.int .i64 n, .int .i64 way, .int .i64 f.g.rad, .int .i64 f.g.digs, .int .i64 f.g.lo, .int .i64 f.g.hi, .bool f.g.grad, .int .u8 (famB f), .int .i64 0]) (hB : Bt w b 29 (xs.flatMap Vp.cells).toArray) (hm : m = xs.length) (hl : xs.length ≤ 1000) (hc : ∀ x ∈ xs, x.v.cls ≤ 5) (G : b0r f) (hyes : ∃ x ∈ xs, 4 ≤ x.v.cls) :
 Calls Tryd.prog 108 #[.pointer (some ⟨u, 0, none⟩), .slice (some ⟨b, 0, none⟩) m m] w fun en w' => en = .returned (.tuple #[.agg #[.int .i64 (f.nothM.cls : Int), .bool false, .slice none 0 0, .int .i64 0], .bool true]) ∧ Kp [u] w w' ∧ Bt w' u 153 #[.int .i64 n, .int .i64 way, .int .i64 f.g.rad, .int .i64 f.g.digs, .int .i64 f.g.lo, .int .i64 f.g.hi, .bool f.g.grad, .int .u8 (famB f), .int .i64 ((f.offM.2 : Nat) : Int)] := by
 subst hm
 have HX : ∀ i, i < xs.length → ∃ x : Vp, xs[i]? = some x ∧ x.v.cls ≤ 5 := fun i h => ⟨xs[i], List.getElem?_eq_getElem h, hc _ (List.getElem_mem h)⟩
 obtain ⟨y, hy, hy4⟩ := hyes
 obtain ⟨j, hj, hjy⟩ := List.getElem_of_mem hy
 have hYJ : xs[j]? = some y := by rw [List.getElem?_eq_getElem hj, hjy]
 clear hjy hy hc
 have HN := fun fl W u hU => hi0 (h0u f n way fl u W hU)
 have HR := fun W u hU => hi0 (b0u f n way 0 16 16 u W hU (by decide +kernel))
 have e2 : f.fam = 3 → ((f.offM.2 : Nat) : Int) = 16 ∧ famB f = 67 := fun h => ⟨by unfold Fm.offM; rw [if_pos h]; rfl, by unfold famB; rw [if_neg (by omega), if_neg (by omega)]⟩
 have e3 : f.fam ≠ 3 → ((f.offM.2 : Nat) : Int) = 0 := fun h => by unfold Fm.offM; rw [if_neg h]; rfl
 have e4 : f.fam ≠ 3 → famB f ≠ 67 := fun h => by have := G.fam; unfold famB; split; decide; rw [if_pos (by omega)]; decide
 generalize ((f.offM.2 : Nat) : Int) = fl at *
 generalize f.nothM.cls = kN at *
 have I := Inv.startW w u 153 (uS f n way 0) [btF b 29 (xs.flatMap Vp.cells).toArray] U ⟨hB, True.intro⟩ ⟨fun hf => hB.far U (by kernel_rfl) hf, True.intro⟩
 refine a0d [.p 0 0, .v (.slice (some ⟨b, 0, none⟩) xs.length xs.length)] I Tryd.func108 ?_
 refine v0j I (fun gk fr bx gs => ∃ (U900 : Nat → Value) (i : Nat), fr = (.p 0 0 :: .v (.slice (some ⟨b, 0, none⟩) xs.length xs.length) :: su 2 (.p 1 0 :: .v (U900 5) :: .v undef :: .v (U900 7) :: .v (.slice (some ⟨b, 0, none⟩) xs.length xs.length) :: .v (.int .i64 (xs.length : Int)) :: .v (.int .i64 (i : Int)) :: sw U900 11 16 []) : List SV) ∧ bx = [⟨153, (uS f n way 0), false⟩, ⟨29, [.v (.int .i64 0), .v (.bool false), .v (.slice none 0 0), .v (.int .i64 0)], false⟩] ∧ gs = [btF b 29 (xs.flatMap Vp.cells).toArray] ∧ (gk + i = xs.length) ∧ (∀ (j : Nat) (x : Vp), j < i → xs[j]? = some x → x.v.cls < 4)) xs.length (fun Al W U I => ⟨_, ⟨U, 0, rfl, rfl, rfl, (by omega), (fun _ _ h => absurd h (by omega))⟩, I.pick [0]⟩) ?_
 rintro J gk0 _ _ _ ⟨U900, i, rfl, rfl, rfl, hgk, hlt⟩ hJ Al W I
 rcases Bool.eq_false_or_eq_true (decide ((i : Int) < (xs.length : Int))) with f11 | f11
 · refine zb I 11 (decide ((i : Int) < (xs.length : Int))) (true) (f11) fun Al W I => ?_
   obtain ⟨x, hx, hx5⟩ := HX i (by have := oTr f11; omega)
   refine zx I 12 (fun _ => .pointer (some (at_ (some ⟨b, 0, none⟩) (i * 4)))) (fun Al W I => (h0n (m := i) (n := xs.length) (c := xs.length) k0r (fun _ => ⟨rfl, rfl⟩) (by have := oTr f11; omega))) fun Al W I => ?_
   refine zx I 13 (fun _ => .agg #[.int .i64 (x.v.cls : Int), .bool x.v.neg, .slice x.p (dig B32 x.v.d).length x.c, .int .i64 x.v.pow]) (fun Al W I => (b1c I.fa.1 e0f x.cells (p0t Vp.len hx) rfl)) fun Al W I => ?_
   by_cases hof : 4 ≤ x.v.cls
   · refine zqd I (fun Al W I => f0t x.v.cls x.v.neg x.p (dig B32 x.v.d).length x.c x.v.pow W) (show (decide (x.v.cls = 4) || decide (x.v.cls = 5)) = true from (by rcases (show x.v.cls = 4 ∨ x.v.cls = 5 by omega) with h | h <;> rw [h] <;> rfl)) fun Al W I => ?_
     by_cases hf3 : f.fam = 3
     · refine zb I 20 ((famB f) == 67) (true) (beq_iff_eq.2 (e2 hf3).2) fun Al W I => ?_
       refine zge I 0 153 (fun Al W I => (HR W _ (I.box 0 153 _)).out) fun Al V Iv _ _ kz => ?_
       rintro _ W ⟨rfl, hO, hB⟩
       refine ⟨_, rfl, kz _ (uS f n way 16) _ hO hB fun I => ?_⟩
       refine zq I (fun Al W I => (HN 16 W _ (I.box 0 153 _)).out) fun Al W I => ?_
       refine zret I (v := fun Al => .tuple #[.agg #[.int .i64 (kN : Int), .bool false, .slice none 0 0, .int .i64 0], .bool true]) fun Al W I => ?_
       first | exact ⟨rfl, I.bel, by rw [(e2 hf3).1]; exact I.boxE 153 _⟩ | exact ⟨rfl, I.bel, by rw [e3 hf3]; exact I.boxE 153 _⟩
     refine zb I 20 ((famB f) == 67) (false) (bFn (e4 hf3)) fun Al W I => ?_
     refine zq I (fun Al W I => (HN 0 W _ (I.box 0 153 _)).out) fun Al W I => ?_
     refine zret I (v := fun Al => .tuple #[.agg #[.int .i64 (kN : Int), .bool false, .slice none 0 0, .int .i64 0], .bool true]) fun Al W I => ?_
     first | exact ⟨rfl, I.bel, by rw [(e2 hf3).1]; exact I.boxE 153 _⟩ | exact ⟨rfl, I.bel, by rw [e3 hf3]; exact I.boxE 153 _⟩
   refine zqd I (fun Al W I => f0t x.v.cls x.v.neg x.p (dig B32 x.v.d).length x.c x.v.pow W) (show (decide (x.v.cls = 4) || decide (x.v.cls = 5)) = false from (by rw [decide_eq_false (by omega), decide_eq_false (by omega)]; rfl)) fun Al W I => ?_
   refine zi I 25 .i64 ((i : Int) + 1) (((i + 1 : Nat) : Int)) ((by rw [show ((i : Int) + 1) = ((i + 1 : Nat) : Int) by omega]; exact IntWalk.i64_in _ (by have := oTr f11; omega))) fun Al W I => ?_
   exact r0i 2 I J fun Al W U I => hJ (gk0 - 1) _ _ _ _ _ ((by have := oTr f11; omega)) ⟨U, i + 1, rfl, rfl, rfl, (by have := oTr f11; omega), (fun j' x' h h' => by rcases (show j' < i ∨ j' = i by omega) with q | rfl; exact hlt j' x' q h'; rw [hx] at h'; cases h'; omega)⟩ (I.pick [0])
 refine zb I 11 (decide ((i : Int) < (xs.length : Int))) (false) (f11) fun Al W I => ?_
 exact zret I (v := fun Al => .tuple #[.agg #[.int .i64 0, .bool false, .slice none 0 0, .int .i64 0], .bool false]) fun Al W I => absurd (hlt j y (by have := oFa f11; omega) hYJ) (by rw [Nat.not_lt]; omega)
theorem x0j (x y : Dv) (p q : Option Addr) (c d base : Nat) (w : World) (hx : Bare x) (hy : Bare y) (sx : SmD x) (sy : SmD y) (hp : Own w base .u32 76 p c (dig B32 x.m)) (hq : Own w base .u32 76 q d (dig B32 y.m)) (hT : TabW w) (hb : base ≤ w.heap.size) :
 Calls Tryd.prog 101 #[.agg #[.bool x.neg, .slice p (dig B32 x.m).length c, .int .i64 x.e], .agg #[.bool y.neg, .slice q (dig B32 y.m).length d, .int .i64 y.e]] w (e0a w base (f0j x y)) := by
 have h1 := sx.len
 have h2 := sy.len
 have h3 := sx.lo
 have h4 := sx.hi
 have h5 := sy.lo
 have h6 := sy.hi
 have := u0p x.neg y.neg p q _ c _ d base x.e y.e x.m y.m w hp hq rfl rfl (by omega) (by omega) (by omega) (by omega) hT hb
 rw [show (⟨x.neg, x.m, x.e⟩ : Dv) = x from rfl, show (⟨y.neg, y.m, y.e⟩ : Dv) = y from rfl, q0q hx hy] at this
 exact this
theorem f1x (f : Fm) (n way : Int) (x y : Dv) (g h : Bool) (p q : Option Addr) (c d base u : Nat) (w : World) (U : Bt w u 153 #[.int .i64 n, .int .i64 way, .int .i64 f.g.rad, .int .i64 f.g.digs, .int .i64 f.g.lo, .int .i64 f.g.hi, .bool f.g.grad, .int .u8 (famB f), .int .i64 0]) (hp : Own w base .u32 76 p c (dig B32 x.m)) (hq : Own w base .u32 76 q d (dig B32 y.m)) (hb : base ≤ w.heap.size)
 (hx : Bare x) (hy : Bare y) (sx : SmD x) (sy : SmD y) (G : b0r f) (hw : 1 ≤ way ∧ way ≤ 5) (hT : TabW w) :
 Calls Tryd.prog 111 #[.pointer (some ⟨u, 0, none⟩), .agg #[.bool x.neg, .slice p (dig B32 x.m).length c, .int .i64 x.e], .agg #[.bool y.neg, .slice q (dig B32 y.m).length d, .int .i64 y.e], .bool g, .bool h] w (d0q f n way u w w.heap.size (f.sumM x y g h way)) := by
 have HP := fun W h1 h2 h3 h4 => hi0 (x0j x y p q c d base W hx hy sx sy h1 h2 h3 h4)
 have hbd := z0h sx.len sy.len sx.lo sx.hi sy.lo sy.hi
 rw [q0q hx hy] at hbd
 have hS1 : (f0j x y).m ≠ 0 → f.sumM x y g h way = f.numM (f0j x y) way := fun k => by unfold Fm.sumM; rw [if_pos k]
 have hS2 : (f0j x y).m = 0 → x.m = 0 ∧ g = h → f.sumM x y g h way = (f.zeroM g, 0) := fun k k' => by unfold Fm.sumM; rw [if_neg (fun h => h k), if_pos k']
 have hS3 : (f0j x y).m = 0 → ¬ (x.m = 0 ∧ g = h) → f.sumM x y g h way = (f.zeroM (decide (way = 5)), 0) := fun k k' => by unfold Fm.sumM; rw [if_neg (fun h => h k), if_neg k']
 generalize f0j x y = s at *
 generalize f.sumM x y g h way = R at *
 have HN := fun W u (p : Option Addr) (c : Nat) hU h1 => hi0 (r0t f n way s p c u W hU h1 (by omega) (by omega) G hw)
 have HS := fun (W : World) (p : Option Addr) (c : Nat) => hi0 (c0k s.neg p _ c s.e s.m W rfl)
 have HX := fun (W : World) => hi0 (c0k x.neg p _ c x.e x.m W rfl)
 have HZ := fun g W u hU => hi0 (r0p f n way 0 g u W hU)
 rw [show (⟨s.neg, s.m, s.e⟩ : Dv) = s from rfl] at HS
 rw [show (⟨x.neg, x.m, x.e⟩ : Dv) = x from rfl] at HX
 have hs0 := k0m s
 have hx0 := k0m x
 generalize e0e s = ss at *
 generalize e0e x = xs at *
 obtain ⟨rN, flN, hN⟩ : ∃ rN flN, f.numM s way = (rN, flN) := ⟨_, _, rfl⟩
 rw [hN] at HN hS1
 clear hN
 have I := Inv.startW w u 153 (uS f n way 0) [ownF base .u32 76 p c (dig B32 x.m), ownF base .u32 76 q d (dig B32 y.m), tabF] U ⟨hp, hq, hT, True.intro⟩ ⟨fun hf => hp.far U (by kernel_rfl) hf.1 hf.2, fun hf => hq.far U (by kernel_rfl) hf.1 hf.2, fun hf => hT.far U (by kernel_rfl) hf, True.intro⟩
 refine a0d [.p 0 0, .v (.agg #[.bool x.neg, .slice p (dig B32 x.m).length c, .int .i64 x.e]), .v (.agg #[.bool y.neg, .slice q (dig B32 y.m).length d, .int .i64 y.e]), .v (.bool g), .v (.bool h)] I Tryd.func111 ?_
 refine zg I (fun Al W I => have hzW := I.bel.size; (HP W I.fa.1 I.fa.2.1 I.fa.2.2.1 (by omega)).out) fun Al V Iv _ hB _ kz => ?_
 rintro _ W ⟨p14, c14, rfl, o14, hb⟩
 refine ⟨_, rfl, kz _ _ hb fun I => ?_⟩
 have I := I.ownB base o14
 by_cases hs : s.m = 0
 · refine zq I (fun Al W I => (HS W p14 c14).out) fun Al W I => ?_
   refine zb I 17 (ss != 0) (false) (bne_eq_false_iff_eq.2 (hs0.2 hs)) fun Al W I => ?_
   by_cases hx1 : x.m = 0
   · by_cases hgh : g = h
     · refine zq I (fun Al W I => (HX W).out) fun Al W I => ?_
       refine zb I 23 (xs == 0) (true) (beq_iff_eq.2 (hx0.2 hx1)) fun Al W I => ?_
       refine zb I 27 (g == h) (true) ((by rw [hgh]; exact beq_self_eq_true h)) fun Al W I => ?_
       refine zq I (fun Al W I => (HZ g W _ (I.box 0 153 _)).out) fun Al W I => ?_
       rw [hS2 hs ⟨hx1, hgh⟩]
       exact zret I fun Al W I => a0f (k := 1) (by decide) rfl I.bel (I.boxE 153 _)
     refine zq I (fun Al W I => (HX W).out) fun Al W I => ?_
     refine zb I 23 (xs == 0) (true) (beq_iff_eq.2 (hx0.2 hx1)) fun Al W I => ?_
     refine zb I 27 (g == h) (false) (bFn hgh) fun Al W I => ?_
     refine zb I 37 (way == 5) ((decide (way = 5))) (rfl) fun Al W I => ?_
     refine zq I (fun Al W I => (HZ (decide (way = 5)) W _ (I.box 0 153 _)).out) fun Al W I => ?_
     rw [hS3 hs (fun k => by first | exact hx1 k.1 | exact hgh k.2)]
     exact zret I fun Al W I => a0f (k := 1) (by decide) rfl I.bel (I.boxE 153 _)
   by_cases hgh : g = h
   · refine zq I (fun Al W I => (HX W).out) fun Al W I => ?_
     refine zb I 23 (xs == 0) (false) (bFn (fun k => hx1 (hx0.1 k))) fun Al W I => ?_
     refine zb I 37 (way == 5) ((decide (way = 5))) (rfl) fun Al W I => ?_
     refine zq I (fun Al W I => (HZ (decide (way = 5)) W _ (I.box 0 153 _)).out) fun Al W I => ?_
     rw [hS3 hs (fun k => by first | exact hx1 k.1 | exact hgh k.2)]
     exact zret I fun Al W I => a0f (k := 1) (by decide) rfl I.bel (I.boxE 153 _)
   refine zq I (fun Al W I => (HX W).out) fun Al W I => ?_
   refine zb I 23 (xs == 0) (false) (bFn (fun k => hx1 (hx0.1 k))) fun Al W I => ?_
   refine zb I 37 (way == 5) ((decide (way = 5))) (rfl) fun Al W I => ?_
   refine zq I (fun Al W I => (HZ (decide (way = 5)) W _ (I.box 0 153 _)).out) fun Al W I => ?_
   rw [hS3 hs (fun k => by first | exact hx1 k.1 | exact hgh k.2)]
   exact zret I fun Al W I => a0f (k := 1) (by decide) rfl I.bel (I.boxE 153 _)
 refine zq I (fun Al W I => (HS W p14 c14).out) fun Al W I => ?_
 refine zb I 17 (ss != 0) (true) (bne_iff_ne.2 (fun k => hs (hs0.1 k))) fun Al W I => ?_
 refine zge I 0 153 (fun Al W I => (HN W _ p14 c14 (I.box 0 153 _) I.fa.1.rd).out) fun Al V Iv _ _ kz => ?_
 rintro _ W ⟨v20, hR20, p20, c20, rfl, o20, hO, hB⟩
 refine ⟨_, rfl, kz _ (uS f n way (flN : Int)) _ hO hB fun I => ?_⟩
 have I := I.own o20
 rw [hS1 hs]
 exact zret I fun Al W I => ⟨v20, hR20, p20, c20, rfl, I.fa.1, I.bel, I.boxE 153 _⟩
structure AtV (f : Fm) (a : Vp) (r : Vr) : Prop where
 rep : VRep f a.v r
 ok : VrOk r
 inf : r.cls = 3 → f.fam = 1
theorem VrOk.sm {r : Vr} (R : VrOk r) : SmD r.x := ⟨by have := R.len; omega, by have := R.lo; omega, by have := R.hi; omega⟩
theorem r0u {r s : Vr} (R : VrOk r) (S : VrOk s) : SmD (c0v r.x s.x) := by
 have h1 := R.len
 have h2 := S.len
 have h3 := R.lo
 have h4 := R.hi
 have h5 := S.lo
 have h6 := S.hi
 have h7 := s0l r.x s.x
 have h8 : (dig B32 (r.x.m * s.x.m)).length ≤ 1200 := Nat.le_trans (d0y a0a _ _) (by omega)
 have h9 := q0t ⟨xor r.x.neg s.x.neg, r.x.m * s.x.m, r.x.e + s.x.e⟩ (n := 1200) h8 (lo := -60000) (hi := 60000) (by simp only; omega) (by simp only; omega) (by omega) (by omega)
 have e : c0v r.x s.x = bare ⟨xor r.x.neg s.x.neg, r.x.m * s.x.m, r.x.e + s.x.e⟩ := rfl
 rw [← e] at h9
 exact ⟨by omega, by omega, by omega⟩
theorem d1r (f : Fm) (n way : Int) (u : Nat) (w : World) (U : Bt w u 153 #[.int .i64 n, .int .i64 way, .int .i64 f.g.rad, .int .i64 f.g.digs, .int .i64 f.g.lo, .int .i64 f.g.hi, .bool f.g.grad, .int .u8 (famB f), .int .i64 0]) :
 Calls Tryd.prog 110 #[.pointer (some ⟨u, 0, none⟩), .int .i64 16] w fun en w' => en = .returned (.agg #[.int .i64 (f.nothM.cls : Int), .bool false, .slice none 0 0, .int .i64 0]) ∧ Kp [u] w w' ∧ Bt w' u 153 #[.int .i64 n, .int .i64 way, .int .i64 f.g.rad, .int .i64 f.g.digs, .int .i64 f.g.lo, .int .i64 f.g.hi, .bool f.g.grad, .int .u8 (famB f), .int .i64 16] := by
 have HR := fun W u hU => hi0 (b0u f n way 0 16 16 u W hU (by decide +kernel))
 have HN := fun W u hU => hi0 (h0u f n way 16 u W hU)
 generalize f.nothM.cls = k at *
 have I := Inv.startW w u 153 (uS f n way 0) [] U True.intro True.intro
 refine a0d [.p 0 0, .v (.int .i64 16)] I Tryd.func110 ?_
 refine zge I 0 153 (fun Al W I => (HR W _ (I.box 0 153 _)).out) fun Al V Iv _ _ kz => ?_
 rintro _ W ⟨rfl, hO, hB⟩
 refine ⟨_, rfl, kz _ (uS f n way 16) _ hO hB fun I => ?_⟩
 refine zq I (fun Al W I => (HN W _ (I.box 0 153 _)).out) fun Al W I => ?_
 exact zret I fun Al W I => ⟨rfl, I.bel, I.boxE 153 _⟩
theorem l0r (x y : Dv) (p q : Option Addr) (c d base : Nat) (w : World) (sx : SmD x) (sy : SmD y) (hp : Own w base .u32 76 p c (dig B32 x.m)) (hq : Own w base .u32 76 q d (dig B32 y.m)) (hT : TabW w) :
 Calls Tryd.prog 116 #[.agg #[.bool x.neg, .slice p (dig B32 x.m).length c, .int .i64 x.e], .agg #[.bool y.neg, .slice q (dig B32 y.m).length d, .int .i64 y.e]] w (e0a w w.heap.size (c0v x y)) := by
 have h1 := sx.len
 have h2 := sy.len
 have h3 := sx.lo
 have h4 := sx.hi
 have h5 := sy.lo
 have h6 := sy.hi
 exact s0n x.neg y.neg p q _ c _ d base x.e y.e x.m y.m w hp hq rfl rfl (by omega) (by omega) (by omega) (by omega) hT
def two (a b : Vp) : List Vp := [a, b]
theorem f1y (f : Fm) (n way : Int) (a b : Vp) (ra rb : Vr) (base u : Nat) (w : World) (U : Bt w u 153 #[.int .i64 n, .int .i64 way, .int .i64 f.g.rad, .int .i64 f.g.digs, .int .i64 f.g.lo, .int .i64 f.g.hi, .bool f.g.grad, .int .u8 (famB f), .int .i64 0]) (oa : Own w base .u32 76 a.p a.c (dig B32 a.v.d)) (ob : Own w base .u32 76 b.p b.c (dig B32 b.v.d)) (hb : base ≤ w.heap.size)
 (A1 : AtV f a ra) (B1 : AtV f b rb) (G : b0r f) (hw : 1 ≤ way ∧ way ≤ 5) (hT : TabW w) :
 Calls Tryd.prog 58 #[.pointer (some ⟨u, 0, none⟩), .agg #[.int .i64 (a.v.cls : Int), .bool a.v.neg, .slice a.p (dig B32 a.v.d).length a.c, .int .i64 a.v.pow], .agg #[.int .i64 (b.v.cls : Int), .bool b.v.neg, .slice b.p (dig B32 b.v.d).length b.c, .int .i64 b.v.pow]] w (d0q f n way u w base (f.addM ra rb way)) := by
 have hM : f.addM ra rb way = if 4 ≤ a.v.cls ∨ 4 ≤ b.v.cls then f.offM else if a.v.cls = 3 ∨ b.v.cls = 3 then (if a.v.cls = b.v.cls ∧ a.v.neg ≠ b.v.neg then f.lostM else if a.v.cls = 3 then (ra, 0) else (rb, 0)) else f.sumM ra.x rb.x a.v.neg b.v.neg way := by
  unfold Fm.addM; rw [A1.rep.cls, B1.rep.cls, A1.rep.neg, B1.rep.neg]
 have hca : a.v.cls ≤ 5 := by rw [A1.rep.cls]; exact A1.ok.c.2
 have hcb : b.v.cls ≤ 5 := by rw [B1.rep.cls]; exact B1.ok.c.2
 have HY := fun W b0 u h1 h2 h3 => hi0 (q0e f n way [a, b] b0 2 u W h1 h2 rfl (by simp) (by simp [hca, hcb]) G h3)
 have HN := fun W b0 u h1 h2 h3 => hi0 (x0i f n way 0 [a, b] b0 2 u W h1 h2 rfl (by simp) h3)
 have HL := fun W u h1 => hi0 (f1w f n way u W h1 16 16 (by decide +kernel))
 have HA := fun W u h1 h2 h3 => hi0 (q0d f n way 0 a.v ra a.p a.c base u W h1 h2 A1.rep A1.ok h3)
 have HB := fun W u h1 h2 h3 => hi0 (q0d f n way 0 b.v rb b.p b.c base u W h1 h2 B1.rep B1.ok h3)
 have HS := fun W p q c d base u h1 h2 h3 h4 h5 => hi0 (f1x f n way ra.x rb.x a.v.neg b.v.neg p q c d base u W h1 h2 h3 h4 A1.ok.bare B1.ok.bare A1.ok.sm B1.ok.sm G hw h5)
 have hoffm : f.offM = (⟨f.nothM.cls, false, vz⟩, f.offM.2) := rfl
 have hk2 := h0v G
 have hlostm : f.lostM = (f.nothM, 16) := rfl
 have VA := A1.rep
 have VB := B1.rep
 obtain ⟨rS, flS, hS⟩ : ∃ rS flS, f.sumM ra.x rb.x a.v.neg b.v.neg way = (rS, flS) := ⟨_, _, rfl⟩
 rw [hS] at HS hM
 generalize f.addM ra rb way = R at *
 generalize f.offM.2 = flo at *
 generalize f.nothM.cls = kN at *
 generalize f.nothM = rN at *
 have I := Inv.startW w u 153 (uS f n way 0) [ownF base .u32 76 a.p a.c (dig B32 a.v.d), ownF base .u32 76 b.p b.c (dig B32 b.v.d), tabF] U ⟨oa, ob, hT, True.intro⟩ ⟨fun hf => oa.far U (by kernel_rfl) hf.1 hf.2, fun hf => ob.far U (by kernel_rfl) hf.1 hf.2, fun hf => hT.far U (by kernel_rfl) hf, True.intro⟩
 refine a0d [.p 0 0, .v (.agg #[.int .i64 (a.v.cls : Int), .bool a.v.neg, .slice a.p (dig B32 a.v.d).length a.c, .int .i64 a.v.pow]), .v (.agg #[.int .i64 (b.v.cls : Int), .bool b.v.neg, .slice b.p (dig B32 b.v.d).length b.c, .int .i64 b.v.pow])] I Tryd.func58 ?_
 by_cases hof : 4 ≤ a.v.cls ∨ 4 ≤ b.v.cls
 · refine zge I 0 153 (fun Al W I => (HY W _ _ (I.box 0 153 _) (I.box 4 29 _) (by simpa using hof)).out) fun Al V Iv _ _ kz => ?_
   rintro _ W ⟨rfl, hO, hB⟩
   refine ⟨_, rfl, kz _ (uS f n way (flo : Int)) _ hO hB fun I => ?_⟩
   rw [hM]
   refine zret I (v := fun Al => .agg #[.int .i64 (kN : Int), .bool false, .slice none 0 0, .int .i64 0]) fun Al W I => ?_
   first | (rw [if_pos hof, hoffm]; exact a0f hk2 rfl I.bel (I.boxE 153 _)) | (rw [if_neg hof, if_pos (.inl h3a), if_neg (fun h => by first | exact h.2 hng | (have := h.1; omega)), if_pos h3a]; exact ⟨a.v, VA, a.p, a.c, rfl, I.fa.1, I.bel, I.boxE 153 _⟩) | (rw [if_neg hof, if_pos (.inr h3b), if_neg (fun h => h3a (by omega)), if_neg h3a]; exact ⟨b.v, VB, b.p, b.c, rfl, I.fa.2.1, I.bel, I.boxE 153 _⟩)
 refine zq I (fun Al W I => have hzW := I.bel.size; (HN W _ _ (I.box 0 153 _) (I.box 4 29 _) (by simp only [List.mem_cons, List.mem_nil_iff, or_false]; rintro x (rfl | rfl) <;> omega)).out) fun Al W I => ?_
 by_cases h3a : a.v.cls = 3
 · by_cases h3b : b.v.cls = 3
   · by_cases hng : a.v.neg = b.v.neg
     · refine zqd I (fun Al W I => a0b a.v.cls a.v.neg a.p (dig B32 a.v.d).length a.c a.v.pow W) (dTr h3a) fun Al W I => ?_
       refine zqd I (fun Al W I => a0b b.v.cls b.v.neg b.p (dig B32 b.v.d).length b.c b.v.pow W) (dTr h3b) fun Al W I => ?_
       refine zb I 31 (a.v.neg != b.v.neg) (false) (bne_eq_false_iff_eq.2 hng) fun Al W I => ?_
       refine zqd I (fun Al W I => a0b a.v.cls a.v.neg a.p (dig B32 a.v.d).length a.c a.v.pow W) (dTr h3a) fun Al W I => ?_
       rw [hM]
       refine zret I (v := fun Al => .agg #[.int .i64 (a.v.cls : Int), .bool a.v.neg, .slice a.p (dig B32 a.v.d).length a.c, .int .i64 a.v.pow]) fun Al W I => ?_
       first | (rw [if_pos hof, hoffm]; exact a0f hk2 rfl I.bel (I.boxE 153 _)) | (rw [if_neg hof, if_pos (.inl h3a), if_neg (fun h => by first | exact h.2 hng | (have := h.1; omega)), if_pos h3a]; exact ⟨a.v, VA, a.p, a.c, rfl, I.fa.1, I.bel, I.boxE 153 _⟩) | (rw [if_neg hof, if_pos (.inr h3b), if_neg (fun h => h3a (by omega)), if_neg h3a]; exact ⟨b.v, VB, b.p, b.c, rfl, I.fa.2.1, I.bel, I.boxE 153 _⟩)
     refine zqd I (fun Al W I => a0b a.v.cls a.v.neg a.p (dig B32 a.v.d).length a.c a.v.pow W) (dTr h3a) fun Al W I => ?_
     refine zqd I (fun Al W I => a0b b.v.cls b.v.neg b.p (dig B32 b.v.d).length b.c b.v.pow W) (dTr h3b) fun Al W I => ?_
     refine zb I 31 (a.v.neg != b.v.neg) (true) (bne_iff_ne.2 hng) fun Al W I => ?_
     refine zge I 0 153 (fun Al W I => (HL W _ (I.box 0 153 _)).out) fun Al V Iv _ _ kz => ?_
     rintro _ W ⟨v34, hR34, p34, c34, rfl, o34, hO, hB⟩
     refine ⟨_, rfl, kz _ (uS f n way 16) _ hO hB fun I => ?_⟩
     have I := I.ownB base o34
     rw [hM, if_neg hof, if_pos (.inl h3a), if_pos ⟨by omega, hng⟩, hlostm]
     exact zret I fun Al W I => ⟨v34, hR34, p34, c34, rfl, I.fa.1, I.bel, I.boxE 153 _⟩
   by_cases hng : a.v.neg = b.v.neg
   · refine zqd I (fun Al W I => a0b a.v.cls a.v.neg a.p (dig B32 a.v.d).length a.c a.v.pow W) (dTr h3a) fun Al W I => ?_
     refine zqd I (fun Al W I => a0b b.v.cls b.v.neg b.p (dig B32 b.v.d).length b.c b.v.pow W) (dFa h3b) fun Al W I => ?_
     refine zqd I (fun Al W I => a0b a.v.cls a.v.neg a.p (dig B32 a.v.d).length a.c a.v.pow W) (dTr h3a) fun Al W I => ?_
     rw [hM]
     refine zret I (v := fun Al => .agg #[.int .i64 (a.v.cls : Int), .bool a.v.neg, .slice a.p (dig B32 a.v.d).length a.c, .int .i64 a.v.pow]) fun Al W I => ?_
     first | (rw [if_pos hof, hoffm]; exact a0f hk2 rfl I.bel (I.boxE 153 _)) | (rw [if_neg hof, if_pos (.inl h3a), if_neg (fun h => by first | exact h.2 hng | (have := h.1; omega)), if_pos h3a]; exact ⟨a.v, VA, a.p, a.c, rfl, I.fa.1, I.bel, I.boxE 153 _⟩) | (rw [if_neg hof, if_pos (.inr h3b), if_neg (fun h => h3a (by omega)), if_neg h3a]; exact ⟨b.v, VB, b.p, b.c, rfl, I.fa.2.1, I.bel, I.boxE 153 _⟩)
   refine zqd I (fun Al W I => a0b a.v.cls a.v.neg a.p (dig B32 a.v.d).length a.c a.v.pow W) (dTr h3a) fun Al W I => ?_
   refine zqd I (fun Al W I => a0b b.v.cls b.v.neg b.p (dig B32 b.v.d).length b.c b.v.pow W) (dFa h3b) fun Al W I => ?_
   refine zqd I (fun Al W I => a0b a.v.cls a.v.neg a.p (dig B32 a.v.d).length a.c a.v.pow W) (dTr h3a) fun Al W I => ?_
   rw [hM]
   refine zret I (v := fun Al => .agg #[.int .i64 (a.v.cls : Int), .bool a.v.neg, .slice a.p (dig B32 a.v.d).length a.c, .int .i64 a.v.pow]) fun Al W I => ?_
   first | (rw [if_pos hof, hoffm]; exact a0f hk2 rfl I.bel (I.boxE 153 _)) | (rw [if_neg hof, if_pos (.inl h3a), if_neg (fun h => by first | exact h.2 hng | (have := h.1; omega)), if_pos h3a]; exact ⟨a.v, VA, a.p, a.c, rfl, I.fa.1, I.bel, I.boxE 153 _⟩) | (rw [if_neg hof, if_pos (.inr h3b), if_neg (fun h => h3a (by omega)), if_neg h3a]; exact ⟨b.v, VB, b.p, b.c, rfl, I.fa.2.1, I.bel, I.boxE 153 _⟩)
 by_cases h3b : b.v.cls = 3
 · by_cases hng : a.v.neg = b.v.neg
   · refine zqd I (fun Al W I => a0b a.v.cls a.v.neg a.p (dig B32 a.v.d).length a.c a.v.pow W) (dFa h3a) fun Al W I => ?_
     refine zqd I (fun Al W I => a0b a.v.cls a.v.neg a.p (dig B32 a.v.d).length a.c a.v.pow W) (dFa h3a) fun Al W I => ?_
     refine zqd I (fun Al W I => a0b b.v.cls b.v.neg b.p (dig B32 b.v.d).length b.c b.v.pow W) (dTr h3b) fun Al W I => ?_
     rw [hM]
     refine zret I (v := fun Al => .agg #[.int .i64 (b.v.cls : Int), .bool b.v.neg, .slice b.p (dig B32 b.v.d).length b.c, .int .i64 b.v.pow]) fun Al W I => ?_
     first | (rw [if_pos hof, hoffm]; exact a0f hk2 rfl I.bel (I.boxE 153 _)) | (rw [if_neg hof, if_pos (.inl h3a), if_neg (fun h => by first | exact h.2 hng | (have := h.1; omega)), if_pos h3a]; exact ⟨a.v, VA, a.p, a.c, rfl, I.fa.1, I.bel, I.boxE 153 _⟩) | (rw [if_neg hof, if_pos (.inr h3b), if_neg (fun h => h3a (by omega)), if_neg h3a]; exact ⟨b.v, VB, b.p, b.c, rfl, I.fa.2.1, I.bel, I.boxE 153 _⟩)
   refine zqd I (fun Al W I => a0b a.v.cls a.v.neg a.p (dig B32 a.v.d).length a.c a.v.pow W) (dFa h3a) fun Al W I => ?_
   refine zqd I (fun Al W I => a0b a.v.cls a.v.neg a.p (dig B32 a.v.d).length a.c a.v.pow W) (dFa h3a) fun Al W I => ?_
   refine zqd I (fun Al W I => a0b b.v.cls b.v.neg b.p (dig B32 b.v.d).length b.c b.v.pow W) (dTr h3b) fun Al W I => ?_
   rw [hM]
   refine zret I (v := fun Al => .agg #[.int .i64 (b.v.cls : Int), .bool b.v.neg, .slice b.p (dig B32 b.v.d).length b.c, .int .i64 b.v.pow]) fun Al W I => ?_
   first | (rw [if_pos hof, hoffm]; exact a0f hk2 rfl I.bel (I.boxE 153 _)) | (rw [if_neg hof, if_pos (.inl h3a), if_neg (fun h => by first | exact h.2 hng | (have := h.1; omega)), if_pos h3a]; exact ⟨a.v, VA, a.p, a.c, rfl, I.fa.1, I.bel, I.boxE 153 _⟩) | (rw [if_neg hof, if_pos (.inr h3b), if_neg (fun h => h3a (by omega)), if_neg h3a]; exact ⟨b.v, VB, b.p, b.c, rfl, I.fa.2.1, I.bel, I.boxE 153 _⟩)
 by_cases hng : a.v.neg = b.v.neg
 · refine zqd I (fun Al W I => a0b a.v.cls a.v.neg a.p (dig B32 a.v.d).length a.c a.v.pow W) (dFa h3a) fun Al W I => ?_
   refine zqd I (fun Al W I => a0b a.v.cls a.v.neg a.p (dig B32 a.v.d).length a.c a.v.pow W) (dFa h3a) fun Al W I => ?_
   refine zqd I (fun Al W I => a0b b.v.cls b.v.neg b.p (dig B32 b.v.d).length b.c b.v.pow W) (dFa h3b) fun Al W I => ?_
   refine zd [0, 3] I fun Al W I => ?_
   refine zk [0, 1, 2, 4, 5, 7, 8, 9, 10] I fun I => ?_
   refine zo 3 I fun I => ?_
   refine zg I (fun Al W I => (HA W _ (I.box 0 153 _) I.fa.1 I.fa.2.2.1).out) fun Al V Iv _ hB _ kz => ?_
   rintro _ W ⟨p46, c46, rfl, o46, hb⟩
   refine ⟨_, rfl, kz _ _ hb fun I => ?_⟩
   have I := I.ownB base o46
   refine zo 6 I fun I => ?_
   refine zg I (fun Al W I => (HB W _ (I.box 0 153 _) I.fa.2.2.1 I.fa.2.2.2.1).out) fun Al V Iv _ hB _ kz => ?_
   rintro _ W ⟨p49, c49, rfl, o49, hb⟩
   refine ⟨_, rfl, kz _ _ hb fun I => ?_⟩
   have I := I.ownB base o49
   refine zo 11 I fun I => ?_
   refine zge I 0 153 (fun Al W I => have hzW := I.bel.size; (HS W p46 p49 c46 c49 _ _ (I.box 0 153 _) I.fa.2.1 I.fa.1 (by omega) I.fa.2.2.2.2.1).out) fun Al V Iv _ _ kz => ?_
   rintro _ W ⟨v54, hR54, p54, c54, rfl, o54, hO, hB⟩
   refine ⟨_, rfl, kz _ (uS f n way (flS : Int)) _ hO hB fun I => ?_⟩
   have I := I.ownB base o54
   refine zo 12 I fun I => ?_
   refine zn I fun Al W I => ?_
   rw [hM, if_neg hof, if_neg (by rintro (h | h); exact h3a h; exact h3b h)]
   exact zret I fun Al W I => ⟨v54, hR54, p54, c54, rfl, I.fa.1, I.bel, I.boxE 153 _⟩
 refine zqd I (fun Al W I => a0b a.v.cls a.v.neg a.p (dig B32 a.v.d).length a.c a.v.pow W) (dFa h3a) fun Al W I => ?_
 refine zqd I (fun Al W I => a0b a.v.cls a.v.neg a.p (dig B32 a.v.d).length a.c a.v.pow W) (dFa h3a) fun Al W I => ?_
 refine zqd I (fun Al W I => a0b b.v.cls b.v.neg b.p (dig B32 b.v.d).length b.c b.v.pow W) (dFa h3b) fun Al W I => ?_
 refine zd [0, 3] I fun Al W I => ?_
 refine zk [0, 1, 2, 4, 5, 7, 8, 9, 10] I fun I => ?_
 refine zo 3 I fun I => ?_
 refine zg I (fun Al W I => (HA W _ (I.box 0 153 _) I.fa.1 I.fa.2.2.1).out) fun Al V Iv _ hB _ kz => ?_
 rintro _ W ⟨p46, c46, rfl, o46, hb⟩
 refine ⟨_, rfl, kz _ _ hb fun I => ?_⟩
 have I := I.ownB base o46
 refine zo 6 I fun I => ?_
 refine zg I (fun Al W I => (HB W _ (I.box 0 153 _) I.fa.2.2.1 I.fa.2.2.2.1).out) fun Al V Iv _ hB _ kz => ?_
 rintro _ W ⟨p49, c49, rfl, o49, hb⟩
 refine ⟨_, rfl, kz _ _ hb fun I => ?_⟩
 have I := I.ownB base o49
 refine zo 11 I fun I => ?_
 refine zge I 0 153 (fun Al W I => have hzW := I.bel.size; (HS W p46 p49 c46 c49 _ _ (I.box 0 153 _) I.fa.2.1 I.fa.1 (by omega) I.fa.2.2.2.2.1).out) fun Al V Iv _ _ kz => ?_
 rintro _ W ⟨v54, hR54, p54, c54, rfl, o54, hO, hB⟩
 refine ⟨_, rfl, kz _ (uS f n way (flS : Int)) _ hO hB fun I => ?_⟩
 have I := I.ownB base o54
 refine zo 12 I fun I => ?_
 refine zn I fun Al W I => ?_
 rw [hM, if_neg hof, if_neg (by rintro (h | h); exact h3a h; exact h3b h)]
 exact zret I fun Al W I => ⟨v54, hR54, p54, c54, rfl, I.fa.1, I.bel, I.boxE 153 _⟩
theorem x0k (f : Fm) (n way fl : Int) (a b : Vp) (u : Nat) (w : World) (U : Bt w u 153 #[.int .i64 n, .int .i64 way, .int .i64 f.g.rad, .int .i64 f.g.digs, .int .i64 f.g.lo, .int .i64 f.g.hi, .bool f.g.grad, .int .u8 (famB f), .int .i64 fl]) (h3a : a.v.cls ≠ 3) (h3b : b.v.cls ≠ 3) :
 Calls Tryd.prog 112 #[.pointer (some ⟨u, 0, none⟩), .agg #[.int .i64 (a.v.cls : Int), .bool a.v.neg, .slice a.p (dig B32 a.v.d).length a.c, .int .i64 a.v.pow], .agg #[.int .i64 (b.v.cls : Int), .bool b.v.neg, .slice b.p (dig B32 b.v.d).length b.c, .int .i64 b.v.pow]] w fun en w' => en = .returned (.tuple #[.agg #[.int .i64 0, .bool false, .slice none 0 0, .int .i64 0], .bool false]) ∧ Below w.heap.size w w' := by
 have I := Inv.startR w [u] [⟨153, (uS f n way fl), true⟩] [] ⟨U, True.intro⟩ True.intro
 refine a0d [.p 0 0, .v (.agg #[.int .i64 (a.v.cls : Int), .bool a.v.neg, .slice a.p (dig B32 a.v.d).length a.c, .int .i64 a.v.pow]), .v (.agg #[.int .i64 (b.v.cls : Int), .bool b.v.neg, .slice b.p (dig B32 b.v.d).length b.c, .int .i64 b.v.pow])] I Tryd.func112 ?_
 refine zqd I (fun Al W I => a0b a.v.cls a.v.neg a.p (dig B32 a.v.d).length a.c a.v.pow W) (dFa h3a) fun Al W I => ?_
 refine zqd I (fun Al W I => a0b b.v.cls b.v.neg b.p (dig B32 b.v.d).length b.c b.v.pow W) (dFa h3b) fun Al W I => ?_
 exact zrb I
theorem r0v (f : Fm) (n way fl : Int) (a b : Vp) (u : Nat) (w : World) (U : Bt w u 153 #[.int .i64 n, .int .i64 way, .int .i64 f.g.rad, .int .i64 f.g.digs, .int .i64 f.g.lo, .int .i64 f.g.hi, .bool f.g.grad, .int .u8 (famB f), .int .i64 fl]) (h3 : a.v.cls = 3 ∨ b.v.cls = 3) (h1 : ¬ (a.v.cls = 1 ∨ b.v.cls = 1)) :
 Calls Tryd.prog 112 #[.pointer (some ⟨u, 0, none⟩), .agg #[.int .i64 (a.v.cls : Int), .bool a.v.neg, .slice a.p (dig B32 a.v.d).length a.c, .int .i64 a.v.pow], .agg #[.int .i64 (b.v.cls : Int), .bool b.v.neg, .slice b.p (dig B32 b.v.d).length b.c, .int .i64 b.v.pow]] w fun en w' => en = .returned (.tuple #[.agg #[.int .i64 3, .bool (a.v.neg != b.v.neg), .slice none 0 0, .int .i64 0], .bool true]) ∧ Below w.heap.size w w' := by
 have I := Inv.startR w [u] [⟨153, (uS f n way fl), true⟩] [] ⟨U, True.intro⟩ True.intro
 refine a0d [.p 0 0, .v (.agg #[.int .i64 (a.v.cls : Int), .bool a.v.neg, .slice a.p (dig B32 a.v.d).length a.c, .int .i64 a.v.pow]), .v (.agg #[.int .i64 (b.v.cls : Int), .bool b.v.neg, .slice b.p (dig B32 b.v.d).length b.c, .int .i64 b.v.pow])] I Tryd.func112 ?_
 by_cases ha : a.v.cls = 3
 · refine zqd I (fun Al W I => a0b a.v.cls a.v.neg a.p (dig B32 a.v.d).length a.c a.v.pow W) (dTr ha) fun Al W I => ?_
   refine zqd I (fun Al W I => b0b a.v.cls a.v.neg a.p (dig B32 a.v.d).length a.c a.v.pow W) (dFa (by omega)) fun Al W I => ?_
   refine zqd I (fun Al W I => b0b b.v.cls b.v.neg b.p (dig B32 b.v.d).length b.c b.v.pow W) (dFa (by omega)) fun Al W I => ?_
   refine zb I 31 (a.v.neg != b.v.neg) ((a.v.neg != b.v.neg)) (rfl) fun Al W I => ?_
   refine zq I (fun Al W I => f0s (a.v.neg != b.v.neg) W) fun Al W I => ?_
   exact zrb I
 refine zqd I (fun Al W I => a0b a.v.cls a.v.neg a.p (dig B32 a.v.d).length a.c a.v.pow W) (dFa ha) fun Al W I => ?_
 refine zqd I (fun Al W I => a0b b.v.cls b.v.neg b.p (dig B32 b.v.d).length b.c b.v.pow W) (dTr (by omega)) fun Al W I => ?_
 refine zqd I (fun Al W I => b0b a.v.cls a.v.neg a.p (dig B32 a.v.d).length a.c a.v.pow W) (dFa (by omega)) fun Al W I => ?_
 refine zqd I (fun Al W I => b0b b.v.cls b.v.neg b.p (dig B32 b.v.d).length b.c b.v.pow W) (dFa (by omega)) fun Al W I => ?_
 refine zb I 31 (a.v.neg != b.v.neg) ((a.v.neg != b.v.neg)) (rfl) fun Al W I => ?_
 refine zq I (fun Al W I => f0s (a.v.neg != b.v.neg) W) fun Al W I => ?_
 exact zrb I
theorem o0q (f : Fm) (n way : Int) (a b : Vp) (u : Nat) (w : World) (U : Bt w u 153 #[.int .i64 n, .int .i64 way, .int .i64 f.g.rad, .int .i64 f.g.digs, .int .i64 f.g.lo, .int .i64 f.g.hi, .bool f.g.grad, .int .u8 (famB f), .int .i64 0]) (h3 : a.v.cls = 3 ∨ b.v.cls = 3) (h1 : a.v.cls = 1 ∨ b.v.cls = 1) :
 Calls Tryd.prog 112 #[.pointer (some ⟨u, 0, none⟩), .agg #[.int .i64 (a.v.cls : Int), .bool a.v.neg, .slice a.p (dig B32 a.v.d).length a.c, .int .i64 a.v.pow], .agg #[.int .i64 (b.v.cls : Int), .bool b.v.neg, .slice b.p (dig B32 b.v.d).length b.c, .int .i64 b.v.pow]] w fun en w' => en = .returned (.tuple #[.agg #[.int .i64 (f.nothM.cls : Int), .bool false, .slice none 0 0, .int .i64 0], .bool true]) ∧ Kp [u] w w' ∧ Bt w' u 153 #[.int .i64 n, .int .i64 way, .int .i64 f.g.rad, .int .i64 f.g.digs, .int .i64 f.g.lo, .int .i64 f.g.hi, .bool f.g.grad, .int .u8 (famB f), .int .i64 16] := by
 have HL := fun W u h1 => hi0 (d1r f n way u W h1)
 generalize f.nothM.cls = kN at *
 have I := Inv.startW w u 153 (uS f n way 0) [] U True.intro True.intro
 refine a0d [.p 0 0, .v (.agg #[.int .i64 (a.v.cls : Int), .bool a.v.neg, .slice a.p (dig B32 a.v.d).length a.c, .int .i64 a.v.pow]), .v (.agg #[.int .i64 (b.v.cls : Int), .bool b.v.neg, .slice b.p (dig B32 b.v.d).length b.c, .int .i64 b.v.pow])] I Tryd.func112 ?_
 by_cases ha : a.v.cls = 3
 · refine zqd I (fun Al W I => a0b a.v.cls a.v.neg a.p (dig B32 a.v.d).length a.c a.v.pow W) (dTr ha) fun Al W I => ?_
   refine zqd I (fun Al W I => b0b a.v.cls a.v.neg a.p (dig B32 a.v.d).length a.c a.v.pow W) (dFa (by omega)) fun Al W I => ?_
   refine zqd I (fun Al W I => b0b b.v.cls b.v.neg b.p (dig B32 b.v.d).length b.c b.v.pow W) (dTr (by omega)) fun Al W I => ?_
   refine zge I 0 153 (fun Al W I => (HL W _ (I.box 0 153 _)).out) fun Al V Iv _ _ kz => ?_
   rintro _ W ⟨rfl, hO, hB⟩
   refine ⟨_, rfl, kz _ (uS f n way 16) _ hO hB fun I => ?_⟩
   exact zret I fun Al W I => ⟨rfl, I.bel, I.boxE 153 _⟩
 refine zqd I (fun Al W I => a0b a.v.cls a.v.neg a.p (dig B32 a.v.d).length a.c a.v.pow W) (dFa ha) fun Al W I => ?_
 refine zqd I (fun Al W I => a0b b.v.cls b.v.neg b.p (dig B32 b.v.d).length b.c b.v.pow W) (dTr (by omega)) fun Al W I => ?_
 refine zqd I (fun Al W I => b0b a.v.cls a.v.neg a.p (dig B32 a.v.d).length a.c a.v.pow W) (dTr (by omega)) fun Al W I => ?_
 refine zge I 0 153 (fun Al W I => (HL W _ (I.box 0 153 _)).out) fun Al V Iv _ _ kz => ?_
 rintro _ W ⟨rfl, hO, hB⟩
 refine ⟨_, rfl, kz _ (uS f n way 16) _ hO hB fun I => ?_⟩
 exact zret I fun Al W I => ⟨rfl, I.bel, I.boxE 153 _⟩
def _root_.Go.Slip.Fm.mulM (f : Fm) (a b : Vr) (way : Int) : Vr × Nat :=
 if 4 ≤ a.cls ∨ 4 ≤ b.cls then f.offM
 else if a.cls = 3 ∨ b.cls = 3 then (if a.cls = 1 ∨ b.cls = 1 then f.lostM else (infM (a.neg != b.neg), 0))
 else if a.cls = 1 ∨ b.cls = 1 then (f.zeroM (a.neg != b.neg), 0)
 else f.numM (c0v a.x b.x) way
theorem g1z (f : Fm) (n way : Int) (a b : Vp) (ra rb : Vr) (base u : Nat) (w : World) (U : Bt w u 153 #[.int .i64 n, .int .i64 way, .int .i64 f.g.rad, .int .i64 f.g.digs, .int .i64 f.g.lo, .int .i64 f.g.hi, .bool f.g.grad, .int .u8 (famB f), .int .i64 0]) (oa : Own w base .u32 76 a.p a.c (dig B32 a.v.d)) (ob : Own w base .u32 76 b.p b.c (dig B32 b.v.d)) (hb : base ≤ w.heap.size)
 (A1 : AtV f a ra) (B1 : AtV f b rb) (G : b0r f) (hw : 1 ≤ way ∧ way ≤ 5) (hT : TabW w) :
 Calls Tryd.prog 60 #[.pointer (some ⟨u, 0, none⟩), .agg #[.int .i64 (a.v.cls : Int), .bool a.v.neg, .slice a.p (dig B32 a.v.d).length a.c, .int .i64 a.v.pow], .agg #[.int .i64 (b.v.cls : Int), .bool b.v.neg, .slice b.p (dig B32 b.v.d).length b.c, .int .i64 b.v.pow]] w (d0q f n way u w base (f.mulM ra rb way)) := by
 have hM : f.mulM ra rb way = if 4 ≤ a.v.cls ∨ 4 ≤ b.v.cls then f.offM else if a.v.cls = 3 ∨ b.v.cls = 3 then (if a.v.cls = 1 ∨ b.v.cls = 1 then f.lostM else (infM (a.v.neg != b.v.neg), 0)) else if a.v.cls = 1 ∨ b.v.cls = 1 then (f.zeroM (a.v.neg != b.v.neg), 0) else f.numM (c0v ra.x rb.x) way := by
  unfold Fm.mulM; rw [A1.rep.cls, B1.rep.cls, A1.rep.neg, B1.rep.neg]
 have hca : a.v.cls ≤ 5 := by rw [A1.rep.cls]; exact A1.ok.c.2
 have hcb : b.v.cls ≤ 5 := by rw [B1.rep.cls]; exact B1.ok.c.2
 have HY := fun W b0 u h1 h2 h3 => hi0 (q0e f n way [a, b] b0 2 u W h1 h2 rfl (by simp) (by simp [hca, hcb]) G h3)
 have HN := fun W b0 u h1 h2 h3 => hi0 (x0i f n way 0 [a, b] b0 2 u W h1 h2 rfl (by simp) h3)
 have HPN := fun W u h1 h2 h3 => hi0 (x0k f n way 0 a b u W h1 h2 h3)
 have HPI := fun W u h1 h2 h3 => hi0 (r0v f n way 0 a b u W h1 h2 h3)
 have HPL := fun W u h1 h2 h3 => hi0 (o0q f n way a b u W h1 h2 h3)
 have HZ := fun W u h1 => hi0 (r0p f n way 0 (a.v.neg != b.v.neg) u W h1)
 have HA := fun W u h1 h2 h3 => hi0 (q0d f n way 0 a.v ra a.p a.c base u W h1 h2 A1.rep A1.ok h3)
 have HB := fun W u h1 h2 h3 => hi0 (q0d f n way 0 b.v rb b.p b.c base u W h1 h2 B1.rep B1.ok h3)
 have sa := A1.ok.sm
 have sb := B1.ok.sm
 have st := r0u A1.ok B1.ok
 have HT := fun W p q c d base h1 h2 h3 => hi0 (l0r ra.x rb.x p q c d base W sa sb h1 h2 h3)
 generalize c0v ra.x rb.x = t at *
 have hl3 := st.len
 have hl4 := st.lo
 have hl5 := st.hi
 have HNU := fun W p c u h1 h2 => hi0 (r0t f n way t p c u W h1 h2 (by omega) (by omega) G hw)
 have hoffm : f.offM = (⟨f.nothM.cls, false, vz⟩, f.offM.2) := rfl
 have hk2 := h0v G
 have hlostm : f.lostM = (⟨f.nothM.cls, false, vz⟩, 16) := rfl
 obtain ⟨rS, flS, hS⟩ : ∃ rS flS, f.numM t way = (rS, flS) := ⟨_, _, rfl⟩
 rw [hS] at HNU hM
 generalize f.mulM ra rb way = R at *
 generalize f.offM.2 = flo at *
 generalize f.nothM.cls = kN at *
 clear hS st
 have I := Inv.startW w u 153 (uS f n way 0) [ownF base .u32 76 a.p a.c (dig B32 a.v.d), ownF base .u32 76 b.p b.c (dig B32 b.v.d), tabF] U ⟨oa, ob, hT, True.intro⟩ ⟨fun hf => oa.far U (by kernel_rfl) hf.1 hf.2, fun hf => ob.far U (by kernel_rfl) hf.1 hf.2, fun hf => hT.far U (by kernel_rfl) hf, True.intro⟩
 refine a0d [.p 0 0, .v (.agg #[.int .i64 (a.v.cls : Int), .bool a.v.neg, .slice a.p (dig B32 a.v.d).length a.c, .int .i64 a.v.pow]), .v (.agg #[.int .i64 (b.v.cls : Int), .bool b.v.neg, .slice b.p (dig B32 b.v.d).length b.c, .int .i64 b.v.pow])] I Tryd.func60 ?_
 by_cases hof : 4 ≤ a.v.cls ∨ 4 ≤ b.v.cls
 · refine zge I 0 153 (fun Al W I => (HY W _ _ (I.box 0 153 _) (I.box 4 29 _) (by simpa using hof)).out) fun Al V Iv _ _ kz => ?_
   rintro _ W ⟨rfl, hO, hB⟩
   refine ⟨_, rfl, kz _ (uS f n way (flo : Int)) _ hO hB fun I => ?_⟩
   rw [hM]
   refine zret I (v := fun Al => .agg #[.int .i64 (kN : Int), .bool false, .slice none 0 0, .int .i64 0]) fun Al W I => ?_
   first | (rw [if_pos hof, hoffm]; exact a0f hk2 rfl I.bel (I.boxE 153 _)) | (rw [if_neg hof, if_pos h3, if_pos h1, hlostm]; exact a0f hk2 rfl I.bel (I.boxE 153 _)) | (rw [if_neg hof, if_pos h3, if_neg h1]; exact a0f (k := 3) (by decide) rfl I.bel (I.boxE 153 _))
 refine zq I (fun Al W I => have hzW := I.bel.size; (HN W _ _ (I.box 0 153 _) (I.box 4 29 _) (by simp only [List.mem_cons, List.mem_nil_iff, or_false]; rintro x (rfl | rfl) <;> omega)).out) fun Al W I => ?_
 by_cases h3 : a.v.cls = 3 ∨ b.v.cls = 3
 · by_cases h1 : a.v.cls = 1 ∨ b.v.cls = 1
   · refine zge I 0 153 (fun Al W I => (HPL W _ (I.box 0 153 _) h3 h1).out) fun Al V Iv _ _ kz => ?_
     rintro _ W ⟨rfl, hO, hB⟩
     refine ⟨_, rfl, kz _ (uS f n way 16) _ hO hB fun I => ?_⟩
     rw [hM]
     refine zret I (v := fun Al => .agg #[.int .i64 (kN : Int), .bool false, .slice none 0 0, .int .i64 0]) fun Al W I => ?_
     first | (rw [if_pos hof, hoffm]; exact a0f hk2 rfl I.bel (I.boxE 153 _)) | (rw [if_neg hof, if_pos h3, if_pos h1, hlostm]; exact a0f hk2 rfl I.bel (I.boxE 153 _)) | (rw [if_neg hof, if_pos h3, if_neg h1]; exact a0f (k := 3) (by decide) rfl I.bel (I.boxE 153 _))
   refine zq I (fun Al W I => (HPI W _ (I.box 0 153 _) h3 h1).out) fun Al W I => ?_
   rw [hM]
   refine zret I (v := fun Al => .agg #[.int .i64 3, .bool (a.v.neg != b.v.neg), .slice none 0 0, .int .i64 0]) fun Al W I => ?_
   first | (rw [if_pos hof, hoffm]; exact a0f hk2 rfl I.bel (I.boxE 153 _)) | (rw [if_neg hof, if_pos h3, if_pos h1, hlostm]; exact a0f hk2 rfl I.bel (I.boxE 153 _)) | (rw [if_neg hof, if_pos h3, if_neg h1]; exact a0f (k := 3) (by decide) rfl I.bel (I.boxE 153 _))
 refine zq I (fun Al W I => have hzW := I.bel.size; (HPN W _ (I.box 0 153 _) (by omega) (by omega)).out) fun Al W I => ?_
 by_cases hza : a.v.cls = 1
 · by_cases hzb : b.v.cls = 1
   · refine zqd I (fun Al W I => b0b a.v.cls a.v.neg a.p (dig B32 a.v.d).length a.c a.v.pow W) (dTr hza) fun Al W I => ?_
     refine zb I 41 (a.v.neg != b.v.neg) ((a.v.neg != b.v.neg)) (rfl) fun Al W I => ?_
     refine zq I (fun Al W I => (HZ W _ (I.box 0 153 _)).out) fun Al W I => ?_
     rw [hM, if_neg hof, if_neg h3, if_pos (by omega)]
     exact zret I fun Al W I => a0f (k := 1) (by decide) rfl I.bel (I.boxE 153 _)
   refine zqd I (fun Al W I => b0b a.v.cls a.v.neg a.p (dig B32 a.v.d).length a.c a.v.pow W) (dTr hza) fun Al W I => ?_
   refine zb I 41 (a.v.neg != b.v.neg) ((a.v.neg != b.v.neg)) (rfl) fun Al W I => ?_
   refine zq I (fun Al W I => (HZ W _ (I.box 0 153 _)).out) fun Al W I => ?_
   rw [hM, if_neg hof, if_neg h3, if_pos (by omega)]
   exact zret I fun Al W I => a0f (k := 1) (by decide) rfl I.bel (I.boxE 153 _)
 by_cases hzb : b.v.cls = 1
 · refine zqd I (fun Al W I => b0b a.v.cls a.v.neg a.p (dig B32 a.v.d).length a.c a.v.pow W) (dFa hza) fun Al W I => ?_
   refine zqd I (fun Al W I => b0b b.v.cls b.v.neg b.p (dig B32 b.v.d).length b.c b.v.pow W) (dTr hzb) fun Al W I => ?_
   refine zb I 41 (a.v.neg != b.v.neg) ((a.v.neg != b.v.neg)) (rfl) fun Al W I => ?_
   refine zq I (fun Al W I => (HZ W _ (I.box 0 153 _)).out) fun Al W I => ?_
   rw [hM, if_neg hof, if_neg h3, if_pos (by omega)]
   exact zret I fun Al W I => a0f (k := 1) (by decide) rfl I.bel (I.boxE 153 _)
 refine zqd I (fun Al W I => b0b a.v.cls a.v.neg a.p (dig B32 a.v.d).length a.c a.v.pow W) (dFa hza) fun Al W I => ?_
 refine zqd I (fun Al W I => b0b b.v.cls b.v.neg b.p (dig B32 b.v.d).length b.c b.v.pow W) (dFa hzb) fun Al W I => ?_
 refine zd [0, 3] I fun Al W I => ?_
 refine zk [0, 1, 2, 4, 5] I fun I => ?_
 refine zo 3 I fun I => ?_
 refine zg I (fun Al W I => (HA W _ (I.box 0 153 _) I.fa.1 I.fa.2.2.1).out) fun Al V Iv _ hB _ kz => ?_
 rintro _ W ⟨p46, c46, rfl, o46, hb⟩
 refine ⟨_, rfl, kz _ _ hb fun I => ?_⟩
 have I := I.ownB base o46
 refine zo 6 I fun I => ?_
 refine zg I (fun Al W I => (HB W _ (I.box 0 153 _) I.fa.2.2.1 I.fa.2.2.2.1).out) fun Al V Iv _ hB _ kz => ?_
 rintro _ W ⟨p49, c49, rfl, o49, hb⟩
 refine ⟨_, rfl, kz _ _ hb fun I => ?_⟩
 have I := I.ownB base o49
 refine zo 7 I fun I => ?_
 refine zg I (fun Al W I => (HT W p46 p49 c46 c49 _ I.fa.2.1 I.fa.1 I.fa.2.2.2.2.1).out) fun Al V Iv _ hB _ kz => ?_
 rintro _ W ⟨p50, c50, rfl, o50, hb⟩
 refine ⟨_, rfl, kz _ _ hb fun I => ?_⟩
 have I := I.ownB base o50
 refine zo 8 I fun I => ?_
 refine zge I 0 153 (fun Al W I => (HNU W p50 c50 _ (I.box 0 153 _) I.fa.1.rd).out) fun Al V Iv _ _ kz => ?_
 rintro _ W ⟨v51, hR51, p51, c51, rfl, o51, hO, hB⟩
 refine ⟨_, rfl, kz _ (uS f n way (flS : Int)) _ hO hB fun I => ?_⟩
 have I := I.ownB base o51
 refine zo 9 I fun I => ?_
 refine zn I fun Al W I => ?_
 rw [hM, if_neg hof, if_neg h3, if_neg (by omega)]
 exact zret I fun Al W I => ⟨v51, hR51, p51, c51, rfl, I.fa.1, I.bel, I.boxE 153 _⟩
def _root_.Go.Slip.Fm.fusedM (f : Fm) (a b c : Vr) (way : Int) : Vr × Nat :=
 if 4 ≤ a.cls ∨ 4 ≤ b.cls ∨ 4 ≤ c.cls then f.offM
 else if a.cls = 3 ∨ b.cls = 3 then (if a.cls = 1 ∨ b.cls = 1 then f.lostM else f.addM (infM (a.neg != b.neg)) c way)
 else if c.cls = 3 then (c, 0)
 else f.sumM (c0v a.x b.x) c.x (a.neg != b.neg) c.neg way
theorem f1z {f : Fm} (h : f.fam = 1) (g : Bool) : AtV f ⟨⟨3, g, 0, 0⟩, none, 0⟩ (infM g) :=
 ⟨d0x (by decide), ⟨by show 1 ≤ 3 ∧ 3 ≤ 5; omega, fun _ => rfl, fun h => (by cases h), .inr rfl, by show (dig B32 0).length ≤ _; rw [a0e]; decide, by show (-18000 : Int) ≤ 0; decide, by show (0 : Int) ≤ 18000; decide⟩, fun _ => h⟩
theorem g1a (f : Fm) (n way : Int) (g : Bool) (b : Vp) (rb : Vr) (base u : Nat) (w : World) (U : Bt w u 153 #[.int .i64 n, .int .i64 way, .int .i64 f.g.rad, .int .i64 f.g.digs, .int .i64 f.g.lo, .int .i64 f.g.hi, .bool f.g.grad, .int .u8 (famB f), .int .i64 0]) (ob : Own w base .u32 76 b.p b.c (dig B32 b.v.d)) (hb : base ≤ w.heap.size)
 (h1 : f.fam = 1) (B1 : AtV f b rb) (G : b0r f) (hw : 1 ≤ way ∧ way ≤ 5) (hT : TabW w) :
 Calls Tryd.prog 58 #[.pointer (some ⟨u, 0, none⟩), .agg #[.int .i64 3, .bool g, .slice none 0 0, .int .i64 0], .agg #[.int .i64 (b.v.cls : Int), .bool b.v.neg, .slice b.p (dig B32 b.v.d).length b.c, .int .i64 b.v.pow]] w (d0q f n way u w base (f.addM (infM g) rb way)) := by
 have := f1y f n way ⟨⟨3, g, 0, 0⟩, none, 0⟩ b (infM g) rb base u w U (by show Own _ _ _ _ _ _ (dig B32 0); rw [a0e]; exact Own.nil _ _ _ _) ob hb (f1z h1 g) B1 G hw hT
 simp only at this
 rw [a0e] at this
 exact this
theorem d1s (f : Fm) (n way : Int) (a b c : Vp) (ra rb rc : Vr) (base u : Nat) (w : World) (U : Bt w u 153 #[.int .i64 n, .int .i64 way, .int .i64 f.g.rad, .int .i64 f.g.digs, .int .i64 f.g.lo, .int .i64 f.g.hi, .bool f.g.grad, .int .u8 (famB f), .int .i64 0]) (oa : Own w base .u32 76 a.p a.c (dig B32 a.v.d)) (ob : Own w base .u32 76 b.p b.c (dig B32 b.v.d)) (oc : Own w base .u32 76 c.p c.c (dig B32 c.v.d)) (hb : base ≤ w.heap.size)
 (A1 : AtV f a ra) (B1 : AtV f b rb) (C1 : AtV f c rc) (G : b0r f) (hw : 1 ≤ way ∧ way ≤ 5) (hT : TabW w) :
 Calls Tryd.prog 62 #[.pointer (some ⟨u, 0, none⟩), .agg #[.int .i64 (a.v.cls : Int), .bool a.v.neg, .slice a.p (dig B32 a.v.d).length a.c, .int .i64 a.v.pow], .agg #[.int .i64 (b.v.cls : Int), .bool b.v.neg, .slice b.p (dig B32 b.v.d).length b.c, .int .i64 b.v.pow], .agg #[.int .i64 (c.v.cls : Int), .bool c.v.neg, .slice c.p (dig B32 c.v.d).length c.c, .int .i64 c.v.pow]] w (d0q f n way u w base (f.fusedM ra rb rc way)) := by
 have hM : f.fusedM ra rb rc way = if 4 ≤ a.v.cls ∨ 4 ≤ b.v.cls ∨ 4 ≤ c.v.cls then f.offM else if a.v.cls = 3 ∨ b.v.cls = 3 then (if a.v.cls = 1 ∨ b.v.cls = 1 then f.lostM else f.addM (infM (a.v.neg != b.v.neg)) rc way) else if c.v.cls = 3 then (rc, 0) else f.sumM (c0v ra.x rb.x) rc.x (a.v.neg != b.v.neg) c.v.neg way := by
  unfold Fm.fusedM; rw [A1.rep.cls, B1.rep.cls, C1.rep.cls, A1.rep.neg, B1.rep.neg, C1.rep.neg]
 have hca : a.v.cls ≤ 5 := by rw [A1.rep.cls]; exact A1.ok.c.2
 have hcb : b.v.cls ≤ 5 := by rw [B1.rep.cls]; exact B1.ok.c.2
 have hcc : c.v.cls ≤ 5 := by rw [C1.rep.cls]; exact C1.ok.c.2
 have hfi : a.v.cls = 3 ∨ b.v.cls = 3 → f.fam = 1 := fun h => h.elim (fun h => A1.inf (by rw [← A1.rep.cls]; exact h)) (fun h => B1.inf (by rw [← B1.rep.cls]; exact h))
 have hk4 : f.fam = 1 → f.nothM.cls = 4 := fun h => by unfold Fm.nothM; simp [h]
 have HY := fun W b0 u h1 h2 h3 => hi0 (q0e f n way [a, b, c] b0 3 u W h1 h2 rfl (by simp) (by simp [hca, hcb, hcc]) G h3)
 have HN := fun W b0 u h1 h2 h3 => hi0 (x0i f n way 0 [a, b, c] b0 3 u W h1 h2 rfl (by simp) h3)
 have HPN := fun W u h1 h2 h3 => hi0 (x0k f n way 0 a b u W h1 h2 h3)
 have HPI := fun W u h1 h2 h3 => hi0 (r0v f n way 0 a b u W h1 h2 h3)
 have HPL := fun W u h1 h2 h3 => hi0 (o0q f n way a b u W h1 h2 h3)
 have HAD := fun W u h1 h2 h3 h4 h5 => hi0 (g1a f n way (a.v.neg != b.v.neg) c rc base u W h1 h2 h3 h4 C1 G hw h5)
 have HA := fun W u h1 h2 h3 => hi0 (q0d f n way 0 a.v ra a.p a.c base u W h1 h2 A1.rep A1.ok h3)
 have HB := fun W u h1 h2 h3 => hi0 (q0d f n way 0 b.v rb b.p b.c base u W h1 h2 B1.rep B1.ok h3)
 have HC := fun W u h1 h2 h3 => hi0 (q0d f n way 0 c.v rc c.p c.c base u W h1 h2 C1.rep C1.ok h3)
 have sa := A1.ok.sm
 have sb := B1.ok.sm
 have st := r0u A1.ok B1.ok
 have bt := p0b ra.x rb.x
 have HT := fun W p q c d base h1 h2 h3 => hi0 (l0r ra.x rb.x p q c d base W sa sb h1 h2 h3)
 generalize c0v ra.x rb.x = t at *
 have HS := fun W p q cc d base u h1 h2 h3 h4 h5 => hi0 (f1x f n way t rc.x (a.v.neg != b.v.neg) c.v.neg p q cc d base u W h1 h2 h3 h4 bt C1.ok.bare st C1.ok.sm G hw h5)
 have VC := C1.rep
 have hoffm : f.offM = (⟨f.nothM.cls, false, vz⟩, f.offM.2) := rfl
 have hk2 := h0v G
 have hlostm : f.lostM = (⟨f.nothM.cls, false, vz⟩, 16) := rfl
 obtain ⟨rS, flS, hS⟩ : ∃ rS flS, f.sumM t rc.x (a.v.neg != b.v.neg) c.v.neg way = (rS, flS) := ⟨_, _, rfl⟩
 obtain ⟨rD, flD, hD⟩ : ∃ rD flD, f.addM (infM (a.v.neg != b.v.neg)) rc way = (rD, flD) := ⟨_, _, rfl⟩
 rw [hS] at HS hM
 rw [hD] at HAD hM
 generalize f.fusedM ra rb rc way = R at *
 generalize f.offM.2 = flo at *
 generalize f.nothM.cls = kN at *
 generalize hng : (a.v.neg != b.v.neg) = ng at *
 have HNG := hi0 hng
 clear hng hS hD st bt
 have I := Inv.startW w u 153 (uS f n way 0) [ownF base .u32 76 a.p a.c (dig B32 a.v.d), ownF base .u32 76 b.p b.c (dig B32 b.v.d), ownF base .u32 76 c.p c.c (dig B32 c.v.d), tabF] U ⟨oa, ob, oc, hT, True.intro⟩ ⟨fun hf => oa.far U (by kernel_rfl) hf.1 hf.2, fun hf => ob.far U (by kernel_rfl) hf.1 hf.2, fun hf => oc.far U (by kernel_rfl) hf.1 hf.2, fun hf => hT.far U (by kernel_rfl) hf, True.intro⟩
 refine a0d [.p 0 0, .v (.agg #[.int .i64 (a.v.cls : Int), .bool a.v.neg, .slice a.p (dig B32 a.v.d).length a.c, .int .i64 a.v.pow]), .v (.agg #[.int .i64 (b.v.cls : Int), .bool b.v.neg, .slice b.p (dig B32 b.v.d).length b.c, .int .i64 b.v.pow]), .v (.agg #[.int .i64 (c.v.cls : Int), .bool c.v.neg, .slice c.p (dig B32 c.v.d).length c.c, .int .i64 c.v.pow])] I Tryd.func62 ?_
 by_cases hof : 4 ≤ a.v.cls ∨ 4 ≤ b.v.cls ∨ 4 ≤ c.v.cls
 · refine zge I 0 153 (fun Al W I => (HY W _ _ (I.box 0 153 _) (I.box 5 29 _) (by simpa using hof)).out) fun Al V Iv _ _ kz => ?_
   rintro _ W ⟨rfl, hO, hB⟩
   refine ⟨_, rfl, kz _ (uS f n way (flo : Int)) _ hO hB fun I => ?_⟩
   rw [hM]
   refine zret I (v := fun Al => .agg #[.int .i64 (kN : Int), .bool false, .slice none 0 0, .int .i64 0]) fun Al W I => ?_
   first | (rw [if_pos hof, hoffm]; exact a0f hk2 rfl I.bel (I.boxE 153 _)) | (rw [if_neg hof, if_pos h3, if_pos h1, hlostm]; exact a0f hk2 rfl I.bel (I.boxE 153 _)) | (rw [if_neg hof, if_neg h3, if_pos hc3]; exact ⟨c.v, VC, c.p, c.c, rfl, I.fa.2.2.1, I.bel, I.boxE 153 _⟩)
 refine zq I (fun Al W I => have hzW := I.bel.size; (HN W _ _ (I.box 0 153 _) (I.box 5 29 _) (by simp only [List.mem_cons, List.mem_nil_iff, or_false]; rintro x (rfl | rfl | rfl) <;> omega)).out) fun Al W I => ?_
 by_cases h3 : a.v.cls = 3 ∨ b.v.cls = 3
 · by_cases h1 : a.v.cls = 1 ∨ b.v.cls = 1
   · refine zge I 0 153 (fun Al W I => (HPL W _ (I.box 0 153 _) h3 h1).out) fun Al V Iv _ _ kz => ?_
     rintro _ W ⟨rfl, hO, hB⟩
     refine ⟨_, rfl, kz _ (uS f n way 16) _ hO hB fun I => ?_⟩
     refine zqd I (fun Al W I => f0t kN false none 0 0 0 W) (show (decide (kN = 4) || decide (kN = 5)) = true from (by rw [hk4 (hfi h3)]; rfl)) fun Al W I => ?_
     rw [hM]
     refine zret I (v := fun Al => .agg #[.int .i64 (kN : Int), .bool false, .slice none 0 0, .int .i64 0]) fun Al W I => ?_
     first | (rw [if_pos hof, hoffm]; exact a0f hk2 rfl I.bel (I.boxE 153 _)) | (rw [if_neg hof, if_pos h3, if_pos h1, hlostm]; exact a0f hk2 rfl I.bel (I.boxE 153 _)) | (rw [if_neg hof, if_neg h3, if_pos hc3]; exact ⟨c.v, VC, c.p, c.c, rfl, I.fa.2.2.1, I.bel, I.boxE 153 _⟩)
   refine zq I (fun Al W I => (HPI W _ (I.box 0 153 _) h3 h1).out) fun Al W I => ?_
   refine zqd I (fun Al W I => f0t 3 ng none 0 0 0 W) (show (decide (3 = 4) || decide (3 = 5)) = false from rfl) fun Al W I => ?_
   refine zge I 0 153 (fun Al W I => have hzW := I.bel.size; (HAD W _ (I.box 0 153 _) I.fa.2.2.1 (by omega) (hfi h3) I.fa.2.2.2.1).out) fun Al V Iv _ _ kz => ?_
   rintro _ W ⟨v38, hR38, p38, c38, rfl, o38, hO, hB⟩
   refine ⟨_, rfl, kz _ (uS f n way (flD : Int)) _ hO hB fun I => ?_⟩
   have I := I.ownB base o38
   rw [hM, if_neg hof, if_pos h3, if_neg h1]
   exact zret I fun Al W I => ⟨v38, hR38, p38, c38, rfl, I.fa.1, I.bel, I.boxE 153 _⟩
 refine zq I (fun Al W I => have hzW := I.bel.size; (HPN W _ (I.box 0 153 _) (by omega) (by omega)).out) fun Al W I => ?_
 by_cases hc3 : c.v.cls = 3
 · refine zqd I (fun Al W I => a0b c.v.cls c.v.neg c.p (dig B32 c.v.d).length c.c c.v.pow W) (dTr hc3) fun Al W I => ?_
   rw [hM]
   refine zret I (v := fun Al => .agg #[.int .i64 (c.v.cls : Int), .bool c.v.neg, .slice c.p (dig B32 c.v.d).length c.c, .int .i64 c.v.pow]) fun Al W I => ?_
   first | (rw [if_pos hof, hoffm]; exact a0f hk2 rfl I.bel (I.boxE 153 _)) | (rw [if_neg hof, if_pos h3, if_pos h1, hlostm]; exact a0f hk2 rfl I.bel (I.boxE 153 _)) | (rw [if_neg hof, if_neg h3, if_pos hc3]; exact ⟨c.v, VC, c.p, c.c, rfl, I.fa.2.2.1, I.bel, I.boxE 153 _⟩)
 refine zqd I (fun Al W I => a0b c.v.cls c.v.neg c.p (dig B32 c.v.d).length c.c c.v.pow W) (dFa hc3) fun Al W I => ?_
 refine zd [0, 4] I fun Al W I => ?_
 refine zk [0, 1, 2, 4, 5, 8, 9, 11, 12, 13, 14] I fun I => ?_
 refine zkb 15 I (a.v.neg != b.v.neg) (ng) (HNG.out) fun I => ?_
 refine zk [16, 17] I fun I => ?_
 refine zo 3 I fun I => ?_
 refine zg I (fun Al W I => (HA W _ (I.box 0 153 _) I.fa.1 I.fa.2.2.2.1).out) fun Al V Iv _ hB _ kz => ?_
 rintro _ W ⟨p45, c45, rfl, o45, hb⟩
 refine ⟨_, rfl, kz _ _ hb fun I => ?_⟩
 have I := I.ownB base o45
 refine zo 6 I fun I => ?_
 refine zg I (fun Al W I => (HB W _ (I.box 0 153 _) I.fa.2.2.1 I.fa.2.2.2.2.1).out) fun Al V Iv _ hB _ kz => ?_
 rintro _ W ⟨p48, c48, rfl, o48, hb⟩
 refine ⟨_, rfl, kz _ _ hb fun I => ?_⟩
 have I := I.ownB base o48
 refine zo 7 I fun I => ?_
 refine zg I (fun Al W I => (HT W p45 p48 c45 c48 _ I.fa.2.1 I.fa.1 I.fa.2.2.2.2.2.1).out) fun Al V Iv _ hB _ kz => ?_
 rintro _ W ⟨p49, c49, rfl, o49, hb⟩
 refine ⟨_, rfl, kz _ _ hb fun I => ?_⟩
 have I := I.ownB base o49
 refine zo 10 I fun I => ?_
 refine zg I (fun Al W I => (HC W _ (I.box 0 153 _) I.fa.2.2.2.2.2.1 I.fa.2.2.2.2.2.2.1).out) fun Al V Iv _ hB _ kz => ?_
 rintro _ W ⟨p52, c52, rfl, o52, hb⟩
 refine ⟨_, rfl, kz _ _ hb fun I => ?_⟩
 have I := I.ownB base o52
 refine zo 18 I fun I => ?_
 refine zge I 0 153 (fun Al W I => have hzW := I.bel.size; (HS W p49 p52 c49 c52 _ _ (I.box 0 153 _) I.fa.2.1 I.fa.1 (by omega) I.fa.2.2.2.2.2.2.2.1).out) fun Al V Iv _ _ kz => ?_
 rintro _ W ⟨v60, hR60, p60, c60, rfl, o60, hO, hB⟩
 refine ⟨_, rfl, kz _ (uS f n way (flS : Int)) _ hO hB fun I => ?_⟩
 have I := I.ownB base o60
 refine zo 19 I fun I => ?_
 refine zn I fun Al W I => ?_
 rw [hM, if_neg hof, if_neg h3, if_neg hc3]
 exact zret I fun Al W I => ⟨v60, hR60, p60, c60, rfl, I.fa.1, I.bel, I.boxE 153 _⟩
theorem o0r (n : Int) (w : World) : Calls Tryd.prog 74 #[.int .i64 n] w fun en w' => en = .returned (.tuple #[.agg #[.int .i64 (fmt n).g.rad, .int .i64 (fmt n).g.digs, .int .i64 (fmt n).g.lo, .int .i64 (fmt n).g.hi, .bool (fmt n).g.grad], .int .i64 (k0l n)]) ∧ Below w.heap.size w w' := by
 by_cases hn : IsFm n
 · have h0 : k0l n = 0 := by unfold k0l; rw [if_pos hn]
   rw [h0]
   have HF := fun W => hi0 (h0r n hn W)
   generalize fmt n = f at *
   have I := Inv.start w [] True.intro
   refine a0d [.v (.int .i64 n)] I Tryd.func74 ?_
   refine zq I (fun Al W I => (HF W).out) fun Al W I => ?_
   exact zrb I
 · have h0 : k0l n = 6 := by unfold k0l; rw [if_neg hn]
   rw [h0, d1g hn]
   have HF := fun W => hi0 (k0g n hn W)
   have I := Inv.start w [] True.intro
   refine a0d [.v (.int .i64 n)] I Tryd.func74 ?_
   refine zq I (fun Al W I => (HF W).out) fun Al W I => ?_
   exact zrb I
theorem r0w (n way : Int) (w : World) (h : ¬ (IsFm n ∧ 1 ≤ way ∧ way ≤ 5)) : Calls Tryd.prog 52 #[.int .i64 n, .int .i64 way] w fun en w' => en = .returned (.tuple #[.pointer none, .int .i64 6]) ∧ Below w.heap.size w w' := by
 have HG := fun W => hi0 (o0r n W)
 by_cases hn : IsFm n
 · have he : k0l n = 0 := by unfold k0l; rw [if_pos hn]
   have h' : way < 1 ∨ 5 < way := by by_cases k : 1 ≤ way ∧ way ≤ 5; exact absurd ⟨hn, k⟩ h; omega
   rw [he] at HG
   generalize fmt n = f at *
   have I := Inv.start w [] True.intro
   refine a0d [.v (.int .i64 n), .v (.int .i64 way)] I Tryd.func52 ?_
   refine zq I (fun Al W I => (HG W).out) fun Al W I => ?_
   by_cases h1 : way < 1
   · refine zb I 18 (decide (way < 1)) (true) (dTr h1) fun Al W I => ?_
     exact zrb I
   refine zb I 18 (decide (way < 1)) (false) (dFa h1) fun Al W I => ?_
   refine zb I 21 (decide (way > 5)) (true) (dTr (by omega)) fun Al W I => ?_
   exact zrb I
 · have he : k0l n = 6 := by unfold k0l; rw [if_neg hn]
   rw [he] at HG
   generalize fmt n = f at *
   have I := Inv.start w [] True.intro
   refine a0d [.v (.int .i64 n), .v (.int .i64 way)] I Tryd.func52 ?_
   refine zq I (fun Al W I => (HG W).out) fun Al W I => ?_
   exact zrb I
def k0s (f : Fm) (n way : Int) (w : World) (en : Ending) (w' : World) : Prop :=
 ∃ u, en = .returned (.tuple #[.pointer (some ⟨u, 0, none⟩), .int .i64 0]) ∧ w.heap.size ≤ u ∧ Bt w' u 153 #[.int .i64 n, .int .i64 way, .int .i64 f.g.rad, .int .i64 f.g.digs, .int .i64 f.g.lo, .int .i64 f.g.hi, .bool f.g.grad, .int .u8 (famB f), .int .i64 0] ∧ Below w.heap.size w w'
theorem q0f (n way : Int) (w : World) (hn : IsFm n) (hw : 1 ≤ way ∧ way ≤ 5) : Calls Tryd.prog 52 #[.int .i64 n, .int .i64 way] w (k0s (fmt n) n way w) := by
 have HG := fun W => hi0 (o0r n W)
 have he : k0l n = 0 := by unfold k0l; rw [if_pos hn]
 rw [he] at HG
 have G := e0c hn
 generalize fmt n = f at *
 have hrad := G.rad
 have hgr := G.grad
 by_cases f2 : f.fam = 2
 · have hBf : famB f = 66 := by unfold famB; rw [if_neg (by omega), if_pos f2]
   rw [if_pos f2] at hrad
   have I := Inv.start w [] True.intro
   refine a0d [.v (.int .i64 n), .v (.int .i64 way)] I Tryd.func52 ?_
   refine zq I (fun Al W I => (HG W).out) fun Al W I => ?_
   refine zb I 18 (decide (way < 1)) (false) (dFa (by omega)) fun Al W I => ?_
   refine zb I 21 (decide (way > 5)) (false) (dFa (by omega)) fun Al W I => ?_
   refine zb I 31 (f.g.rad == 16) (true) (beq_iff_eq.2 hrad) fun Al W I => ?_
   exact zret I (v := fun Al => .tuple #[.pointer (some ⟨(lk 0 Al 1), 0, none⟩), .int .i64 0]) fun Al W I => ⟨_, rfl, (I.geB 1), by rw [hBf]; exact (I.box 1 153 _), I.below⟩
 · rw [if_neg f2] at hrad
   by_cases f1 : f.fam = 1
   · have hBf : famB f = 65 := by unfold famB; rw [if_pos f1]
     rw [decide_eq_true f1] at hgr
     unfold k0s
     rw [hBf, hgr]
     simp only [hgr] at HG
     have I := Inv.start w [] True.intro
     refine a0d [.v (.int .i64 n), .v (.int .i64 way)] I Tryd.func52 ?_
     refine zq I (fun Al W I => (HG W).out) fun Al W I => ?_
     refine zb I 18 (decide (way < 1)) (false) (dFa (by omega)) fun Al W I => ?_
     refine zb I 21 (decide (way > 5)) (false) (dFa (by omega)) fun Al W I => ?_
     refine zb I 31 (f.g.rad == 16) (false) (bFn (by omega)) fun Al W I => ?_
     exact zret I fun Al W I => ⟨_, rfl, (I.geB 1), (I.box 1 153 _), I.below⟩
   · have hBf : famB f = 67 := by unfold famB; rw [if_neg f1, if_neg f2]
     rw [decide_eq_false f1] at hgr
     unfold k0s
     rw [hBf, hgr]
     simp only [hgr] at HG
     have I := Inv.start w [] True.intro
     refine a0d [.v (.int .i64 n), .v (.int .i64 way)] I Tryd.func52 ?_
     refine zq I (fun Al W I => (HG W).out) fun Al W I => ?_
     refine zb I 18 (decide (way < 1)) (false) (dFa (by omega)) fun Al W I => ?_
     refine zb I 21 (decide (way > 5)) (false) (dFa (by omega)) fun Al W I => ?_
     refine zb I 31 (f.g.rad == 16) (false) (bFn (by omega)) fun Al W I => ?_
     exact zret I fun Al W I => ⟨_, rfl, (I.geB 1), (I.box 1 153 _), I.below⟩
theorem g1b (n way fl : Int) (a : Vp) (r : Vr) (base u : Nat) (w : World) (U : Bt w u 153 #[.int .i64 n, .int .i64 way, .int .i64 (fmt n).g.rad, .int .i64 (fmt n).g.digs, .int .i64 (fmt n).g.lo, .int .i64 (fmt n).g.hi, .bool (fmt n).g.grad, .int .u8 (famB (fmt n)), .int .i64 fl]) (oa : Own w base .u32 76 a.p a.c (dig B32 a.v.d)) (hn : IsFm n) (V : VRep (fmt n) a.v r) (R : ResF (fmt n) r) (hT : TabW w) :
 Calls Tryd.prog 90 #[.pointer (some ⟨u, 0, none⟩), .agg #[.int .i64 (a.v.cls : Int), .bool a.v.neg, .slice a.p (dig B32 a.v.d).length a.c, .int .i64 a.v.pow]] w fun en w' => en = .returned (.tuple #[.string (b0a ((fmt n).strP ((fmt n).encP r.cls r.neg r.x))), .int .i64 fl, .int .i64 0]) ∧ Below w.heap.size w w' := by
 have HE := fun W (h1 : Own W base .u32 76 a.p a.c (dig B32 a.v.d)) h2 => hi0 (t0j n (a.v.cls : Int) (dinV a.v a.p a.c) W (d1p h1 V.len) h2)
 obtain ⟨e1, e2⟩ := f1u R V a.p a.c
 unfold q0c o0o at HE
 rw [if_pos hn, e1, e2] at HE
 simp only [if_true] at HE
 have HE2 : ∀ W, Own W base .u32 76 a.p a.c (dig B32 a.v.d) → TabW W → Hid (Calls Tryd.prog 26 #[.int .i64 n, .agg #[.int .i64 (a.v.cls : Int), .bool a.v.neg, .slice a.p (dig B32 a.v.d).length a.c, .int .i64 a.v.pow]] W fun en w' => en = .returned (.tuple #[.string (b0a ((fmt n).strP ((fmt n).encP r.cls r.neg r.x))), .int .i64 0]) ∧ Below W.heap.size W w') := HE
 clear HE e1 e2 V R
 generalize b0a ((fmt n).strP ((fmt n).encP r.cls r.neg r.x)) = s at *
 generalize fmt n = f at *
 have I := Inv.startR w [u] [⟨153, (uS f n way fl), true⟩] [ownF base .u32 76 a.p a.c (dig B32 a.v.d), tabF] ⟨U, True.intro⟩ ⟨oa, hT, True.intro⟩
 refine a0d [.p 0 0, .v (.agg #[.int .i64 (a.v.cls : Int), .bool a.v.neg, .slice a.p (dig B32 a.v.d).length a.c, .int .i64 a.v.pow])] I Tryd.func90 ?_
 refine zd [] I fun Al W I => ?_
 refine zk [0, 1, 2, 3, 4] I fun I => ?_
 refine zo 5 I fun I => ?_
 refine zq I (fun Al W I => (HE2 W I.fa.1 I.fa.2.1).out) fun Al W I => ?_
 refine zk [6, 7, 8, 9, 10] I fun I => ?_
 refine zd [] I fun Al W I => ?_
 refine zk [0, 1, 2, 3, 4, 5, 6, 7] I fun I => ?_
 exact zrb I
end Go.Proofs.YtmacohmclpnphaaDoor
namespace Go.Slip
open Go.RowKit
theorem x0l {P : Program} {w : World} {b : Nat} {t : TypeId} {vs : Array Value} (h : Bt w b t vs) {ty : TypeId} (hT : d0p P ty) {m : Nat} (v : Value) (hv : vs[m]? = some v) : (VO.ld ty (.pointer (some (at_ (some ⟨b, 0, none⟩) m)))).sem.run P w = .ok v w := by
 have := p0j h hT m v hv
 show (Instr.loadAt _ _).run P w = _
 unfold at_
 simpa using this
end Go.Slip
namespace Go.Proofs.YtmacohmclpnphaaDoor
open Go.RowKit Go.Slip
def t0l (b : Nat) (xs : List Vp) : PF :=
 ⟨fun w => ∀ x, x ∈ xs → Own w b .u32 76 x.p x.c (dig B32 x.v.d), fun a => ∃ x, x ∈ xs ∧ x.p.isSome = true ∧ blk x.p = a, fun _ _ h hb _ x hx => (h x hx).same fun hp => hb _ ((h x hx).blk_lt hp).2 ⟨x, hx, hp, rfl⟩, fun _ _ h ⟨x, hx, hp, hf⟩ => hf ▸ ((h x hx).blk_lt hp).2⟩
theorem x0m {w : World} {b : Nat} {xs : List Vp} {v : Vl} {p : Option Addr} {c : Nat} (h : ∀ x, x ∈ xs → Own w b .u32 76 x.p x.c (dig B32 x.v.d)) (o : Own w b .u32 76 p c (dig B32 v.d)) : ∀ x, x ∈ xs ++ [⟨v, p, c⟩] → Own w b .u32 76 x.p x.c (dig B32 x.v.d) := fun x hx => by
 rw [List.mem_append, List.mem_singleton] at hx
 rcases hx with hx | rfl
 · exact h x hx
 · exact o
theorem a1g {b a : Nat} {xs : List Vp} {v : Vl} {p : Option Addr} {c : Nat} (h : (t0l b (xs ++ [⟨v, p, c⟩])).foot a) (h1 : ∀ x, (x ∈ xs ∧ x.p.isSome = true ∧ blk x.p = a) → False) (h2 : p.isSome = true → blk p = a → False) : False := by
 obtain ⟨x, hx, h3, h4⟩ := h
 rw [List.mem_append, List.mem_singleton] at hx
 rcases hx with hx | rfl
 · exact h1 x ⟨hx, h3, h4⟩
 · exact h2 h3 h4
theorem g1c : i0t Tryd.prog 154 9 (.string ByteArray.empty) 16 := tyV (by kernel_rfl) (by kernel_rfl) (by omega) rfl rfl
theorem g1d : d0p Tryd.prog 9 := c0o (by kernel_rfl) (by kernel_rfl)
def errL (n : Int) : List ByteArray → Int
 | [] => 0
 | s :: r => if a0u n s = 0 then errL n r else a0u n s
theorem x0n (n : Int) : ∀ (L : List ByteArray), errL n L ≠ 0 → ∃ (j : Nat) (s : ByteArray), L[j]? = some s ∧ errL n L = a0u n s ∧ a0u n s ≠ 0 ∧ ∀ i t, i < j → L[i]? = some t → a0u n t = 0
 | [], h => absurd rfl h
 | s :: r, h => by
  unfold errL at h ⊢
  by_cases hs : a0u n s = 0
  · rw [if_pos hs] at h ⊢
    obtain ⟨j, t, h1, h2, h3, h4⟩ := x0n n r h
    refine ⟨j + 1, t, by simpa using h1, h2, h3, fun i u hi hu => ?_⟩
    cases i with
    | zero => simp only [List.getElem?_cons_zero, Option.some.injEq] at hu; rw [← hu]; exact hs
    | succ i => exact h4 i u (by omega) (by simpa using hu)
  · rw [if_neg hs]
    exact ⟨0, s, rfl, rfl, hs, fun i t hi => by omega⟩
theorem e0d (n : Int) : ∀ {L : List ByteArray}, errL n L = 0 → ∀ s, s ∈ L → a0u n s = 0
 | [], _, s, h => by simp at h
 | t :: r, h, s, hs => by
  unfold errL at h
  by_cases ht : a0u n t = 0
  · rw [if_pos ht] at h
    rcases List.mem_cons.1 hs with rfl | hs
    · exact ht
    · exact e0d n h s hs
  · rw [if_neg ht] at h
    exact absurd h ht
def d1t (n : Int) (w : World) (L : List ByteArray) (en : Ending) (w' : World) : Prop :=
 ∃ (xs : List Vp) (vs : List Value) (p : Option Addr) (c : Nat), en = .returned (.tuple #[.slice p L.length c, .int .i64 0]) ∧ xs.map (·.v) = L.map (decP n) ∧ vs = xs.flatMap Vp.cells ∧ OwnS w' w.heap.size 29 4 p c L.length vs ∧ (∀ x, x ∈ xs → Own w' w.heap.size .u32 76 x.p x.c (dig B32 x.v.d)) ∧ Below w.heap.size w w'
theorem r0x (n way fl : Int) (L : List ByteArray) (b m u : Nat) (w : World) (U : Bt w u 153 #[.int .i64 n, .int .i64 way, .int .i64 (fmt n).g.rad, .int .i64 (fmt n).g.digs, .int .i64 (fmt n).g.lo, .int .i64 (fmt n).g.hi, .bool (fmt n).g.grad, .int .u8 (famB (fmt n)), .int .i64 fl]) (hB0 : Bt w b 9 (L.map Value.string).toArray) (hm : m = L.length) (hl : L.length ≤ 1000) (h0 : errL n L = 0) (hT : TabW w) :
 Calls Tryd.prog 53 #[.pointer (some ⟨u, 0, none⟩), .slice (some ⟨b, 0, none⟩) m m] w (d1t n w L) := by
 subst hm
 have HX : ∀ i, i < L.length → ∃ s : ByteArray, L[i]? = some s ∧ a0u n s = 0 ∧ (L.map Value.string).toArray[i]? = some (.string s) ∧ L.take (i + 1) = L.take i ++ [s] := fun i h => ⟨L[i], List.getElem?_eq_getElem h, e0d n h0 _ (List.getElem_mem h), by simp [h], by rw [List.take_add_one, List.getElem?_eq_getElem h]; rfl⟩
 have HD := fun s W h => hi0 (l0n n s W h)
 generalize fmt n = f at *
 have I := Inv.startW w u 153 (uS f n way fl) [btF b 9 (L.map Value.string).toArray, tabF] U ⟨hB0, hT, True.intro⟩ ⟨fun hf => hB0.far U (by kernel_rfl) hf, fun hf => hT.far U (by kernel_rfl) hf, True.intro⟩
 refine a0d [.p 0 0, .v (.slice (some ⟨b, 0, none⟩) L.length L.length)] I Tryd.func53 ?_
 have I := I.add (g0w w.heap.size 29 4 none 0 0 []) (OwnS.nil _ _ _ _) (fun _ _ h => by cases h.1)
 have I := I.add (t0l w.heap.size []) (fun _ h => by cases h) (fun _ _ ⟨_, h, _⟩ => by cases h)
 refine v0j I (fun gk fr bx gs => ∃ (U900 : Nat → Value) (i : Nat) (p6 : Option Addr) (c6 : Nat) (xs : List Vp) (vs : List Value), fr = (.p 0 0 :: .v (.slice (some ⟨b, 0, none⟩) L.length L.length) :: su 2 (sw U900 4 2 (.v (.slice p6 i c6) :: .v undef :: sw U900 8 3 (.v (.slice (some ⟨b, 0, none⟩) L.length L.length) :: .v (.int .i64 (L.length : Int)) :: .v (.int .i64 (i : Int)) :: sw U900 14 21 []))) : List SV) ∧ bx = [⟨153, (uS f n way fl), false⟩] ∧ gs = [t0l w.heap.size xs, g0w w.heap.size 29 4 p6 c6 i vs, btF b 9 (L.map Value.string).toArray, tabF] ∧ (gk + i = L.length) ∧ (vs = xs.flatMap Vp.cells) ∧ (xs.map (·.v) = (L.take i).map (decP n))) L.length (fun Al W U I => ⟨_, ⟨U, 0, none, 0, [], [], rfl, rfl, rfl, (by omega), rfl, rfl⟩, I.pick [0, 1, 2, 3]⟩) ?_
 rintro J gk0 _ _ _ ⟨U900, i, p6, c6, xs, vs, rfl, rfl, rfl, hgk, hvs, hxs⟩ hJ Al W I
 rcases Bool.eq_false_or_eq_true (decide ((i : Int) < (L.length : Int))) with f14 | f14
 · refine zb I 14 (decide ((i : Int) < (L.length : Int))) (true) (f14) fun Al W I => ?_
   obtain ⟨s, hs, hse, hsv, hst⟩ := HX i (by have := oTr f14; omega)
   refine zx I 15 (fun _ => .pointer (some (at_ (some ⟨b, 0, none⟩) i))) (fun Al W I => (v0s (m := i) (n := L.length) (c := L.length) g1c (fun _ => ⟨rfl, rfl⟩) (by have := oTr f14; omega))) fun Al W I => ?_
   refine zx I 16 (fun _ => .string s) (fun Al W I => (x0l I.fa.2.2.1 g1d _ hsv)) fun Al W I => ?_
   refine zqo I (fun Al W I => (HD s W I.fa.2.2.2.1).out) fun Al W p23 c23 I => ?_
   refine zb I 27 ((a0u n s) != 0) (false) (bne_eq_false_iff_eq.2 hse) fun Al W I => ?_
   have I := I.pick [2, 0, 1, 3, 4]
   refine zap I k0r 2 1 (fun Al => [.int .i64 (((decP n s).cls : Nat) : Int), .bool ((decP n s).neg), .slice p23 (dig B32 (decP n s).d).length c23, .int .i64 ((decP n s).pow)]) (fun Al W I => I.box 2 29 _) (by omega) (fun Al W I hp => ⟨I.fa.1.apart I.fa.2.1 (by kernel_rfl) hp, fun ⟨x, hx, h⟩ => I.fa.1.apart (I.fa.2.2.1 x hx) (by kernel_rfl) hp h, fun e => I.fa.1.far I.fa.2.2.2.1 (by kernel_rfl) hp (Eq.symm e), fun e => by have h1 := (I.fa.1.blk_lt hp).1; have h2 := hT.2; have e : 0 = _ := e; omega, True.intro⟩) fun Al W p32 c32 hq_32 I => ?_
   have I := I.add (t0l w.heap.size (xs ++ [(⟨decP n s, p23, c23⟩ : Vp)])) (x0m I.fa.2.2.1 I.fa.2.1) (fun a ha h => a1g h ((fun a ha h0 e => (I.far a ha).2.2.1 ⟨h0, e⟩) a ha) ((fun a ha h0 e => (I.far a ha).2.1 ⟨h0, e⟩) a ha))
   refine zi I 33 .i64 ((i : Int) + 1) (((i + 1 : Nat) : Int)) ((by rw [show ((i : Int) + 1) = ((i + 1 : Nat) : Int) by omega]; exact IntWalk.i64_in _ (by have := oTr f14; omega))) fun Al W I => ?_
   exact r0i 1 I J fun Al W U I => hJ (gk0 - 1) _ _ _ _ _ ((by have := oTr f14; omega)) ⟨U, i + 1, p32, c32, xs ++ [(⟨decP n s, p23, c23⟩ : Vp)], _, rfl, rfl, rfl, (by have := oTr f14; omega), (by rw [hvs, List.flatMap_append]; rfl), (by rw [hst, List.map_append, List.map_append, hxs]; rfl)⟩ (I.pick [0, 1, 4, 5])
 refine zb I 14 (decide ((i : Int) < (L.length : Int))) (false) (f14) fun Al W I => ?_
 have hi : i = L.length := by have := oFa f14; omega
 exact zret I (v := fun Al => .tuple #[.slice p6 i c6, .int .i64 0]) fun Al W I => ⟨xs, vs, p6, c6, by rw [hi], by rw [hxs, hi, List.take_length], hvs, hi ▸ I.fa.2.1, I.fa.1, I.bel.toBelow U (I.boxE 153 _)⟩
theorem _root_.Go.Slip.Inv.ownl {E : List Nat} {w0 : World} {A : List Nat} {bx : List Box} {fs : List PF} {W : World} (I : Inv E w0 A bx fs W) {b : Nat} {xs : List Vp} (o : ∀ x, x ∈ xs → Own W b .u32 76 x.p x.c (dig B32 x.v.d)) (hb : w0.heap.size ≤ b := by first | exact Nat.le_refl _ | assumption | omega) (hne : o0a 76 bx = true := by kernel_rfl) :
 Inv E w0 A bx (t0l w0.heap.size xs :: fs) W :=
 I.add (t0l w0.heap.size xs) (fun x hx => (o x hx).mono hb) fun a ha ⟨x, hx, hf1, hf2⟩ => by
  obtain ⟨j, hj, _, rfl⟩ := ha
  exact (o x hx).far (I.bt j hj) (f0p hne j hj) hf1 hf2
theorem o0s (n way fl : Int) (L : List ByteArray) (b m u : Nat) (w : World) (U : Bt w u 153 #[.int .i64 n, .int .i64 way, .int .i64 (fmt n).g.rad, .int .i64 (fmt n).g.digs, .int .i64 (fmt n).g.lo, .int .i64 (fmt n).g.hi, .bool (fmt n).g.grad, .int .u8 (famB (fmt n)), .int .i64 fl]) (hB0 : Bt w b 9 (L.map Value.string).toArray) (hm : m = L.length) (hl : L.length ≤ 1000) (h0 : errL n L ≠ 0) (hT : TabW w) :
 Calls Tryd.prog 53 #[.pointer (some ⟨u, 0, none⟩), .slice (some ⟨b, 0, none⟩) m m] w fun en w' => en = .returned (.tuple #[.slice none 0 0, .int .i64 (errL n L)]) ∧ Below w.heap.size w w' := by
 subst hm
 obtain ⟨j, sj, hj, he, hne, hlt⟩ := x0n n L h0
 have hjl : j < L.length := (List.getElem?_eq_some_iff.1 hj).1
 rw [he]
 have HX : ∀ i, i < L.length → ∃ s : ByteArray, (L.map Value.string).toArray[i]? = some (.string s) ∧ (i < j → a0u n s = 0) ∧ (i = j → a0u n s = a0u n sj) := fun i h => ⟨L[i], by simp [h], fun k => hlt i _ k (List.getElem?_eq_getElem h), fun k => by subst k; rw [List.getElem?_eq_getElem h] at hj; cases hj; rfl⟩
 have HD := fun s W h => hi0 (l0n n s W h)
 clear he h0 hlt hj
 generalize a0u n sj = er at *
 generalize fmt n = f at *
 have I := Inv.startW w u 153 (uS f n way fl) [btF b 9 (L.map Value.string).toArray, tabF] U ⟨hB0, hT, True.intro⟩ ⟨fun hf => hB0.far U (by kernel_rfl) hf, fun hf => hT.far U (by kernel_rfl) hf, True.intro⟩
 refine a0d [.p 0 0, .v (.slice (some ⟨b, 0, none⟩) L.length L.length)] I Tryd.func53 ?_
 have I := I.add (g0w w.heap.size 29 4 none 0 0 []) (OwnS.nil _ _ _ _) (fun _ _ h => by cases h.1)
 refine v0j I (fun gk fr bx gs => ∃ (U900 : Nat → Value) (i : Nat) (p6 : Option Addr) (c6 : Nat) (vs : List Value), fr = (.p 0 0 :: .v (.slice (some ⟨b, 0, none⟩) L.length L.length) :: su 2 (sw U900 4 2 (.v (.slice p6 i c6) :: .v undef :: sw U900 8 3 (.v (.slice (some ⟨b, 0, none⟩) L.length L.length) :: .v (.int .i64 (L.length : Int)) :: .v (.int .i64 (i : Int)) :: sw U900 14 21 []))) : List SV) ∧ bx = [⟨153, (uS f n way fl), false⟩] ∧ gs = [g0w w.heap.size 29 4 p6 c6 i vs, btF b 9 (L.map Value.string).toArray, tabF] ∧ (gk + i = L.length) ∧ (i ≤ j)) L.length (fun Al W U I => ⟨_, ⟨U, 0, none, 0, [], rfl, rfl, rfl, (by omega), (by omega)⟩, I.pick [0, 1, 2]⟩) ?_
 rintro J gk0 _ _ _ ⟨U900, i, p6, c6, vs, rfl, rfl, rfl, hgk, hij⟩ hJ Al W I
 rcases Bool.eq_false_or_eq_true (decide ((i : Int) < (L.length : Int))) with f14 | f14
 · refine zb I 14 (decide ((i : Int) < (L.length : Int))) (true) (f14) fun Al W I => ?_
   obtain ⟨s, hsv, hs0, hse⟩ := HX i (by have := oTr f14; omega)
   refine zx I 15 (fun _ => .pointer (some (at_ (some ⟨b, 0, none⟩) i))) (fun Al W I => (v0s (m := i) (n := L.length) (c := L.length) g1c (fun _ => ⟨rfl, rfl⟩) (by have := oTr f14; omega))) fun Al W I => ?_
   refine zx I 16 (fun _ => .string s) (fun Al W I => (x0l I.fa.2.1 g1d _ hsv)) fun Al W I => ?_
   refine zqo I (fun Al W I => (HD s W I.fa.2.2.1).out) fun Al W p23 c23 I => ?_
   by_cases hij2 : i = j
   · refine zb I 27 ((a0u n s) != 0) (true) (bne_iff_ne.2 (by rw [hse hij2]; exact hne)) fun Al W I => ?_
     exact zret I (v := fun Al => .tuple #[.slice none 0 0, .int .i64 (a0u n s)]) fun Al W I => ⟨by rw [hse hij2], I.bel.toBelow U (I.boxE 153 _)⟩
   refine zb I 27 ((a0u n s) != 0) (false) (bne_eq_false_iff_eq.2 (hs0 (by omega))) fun Al W I => ?_
   have I := I.pick [1, 0, 2, 3]
   refine zap I k0r 2 1 (fun Al => [.int .i64 (((decP n s).cls : Nat) : Int), .bool ((decP n s).neg), .slice p23 (dig B32 (decP n s).d).length c23, .int .i64 ((decP n s).pow)]) (fun Al W I => I.box 2 29 _) (by omega) (fun Al W I hp => ⟨I.fa.1.apart I.fa.2.1 (by kernel_rfl) hp, fun e => I.fa.1.far I.fa.2.2.1 (by kernel_rfl) hp (Eq.symm e), fun e => by have h1 := (I.fa.1.blk_lt hp).1; have h2 := hT.2; have e : 0 = _ := e; omega, True.intro⟩) fun Al W p32 c32 hq_32 I => ?_
   refine zi I 33 .i64 ((i : Int) + 1) (((i + 1 : Nat) : Int)) ((by rw [show ((i : Int) + 1) = ((i + 1 : Nat) : Int) by omega]; exact IntWalk.i64_in _ (by have := oTr f14; omega))) fun Al W I => ?_
   exact r0i 1 I J fun Al W U I => hJ (gk0 - 1) _ _ _ _ _ ((by have := oTr f14; omega)) ⟨U, i + 1, p32, c32, _, rfl, rfl, rfl, (by have := oTr f14; omega), (by omega)⟩ (I.pick [0, 2, 3])
 refine zb I 14 (decide ((i : Int) < (L.length : Int))) (false) (f14) fun Al W I => ?_
 exact zret I (v := fun Al => .tuple #[.slice p6 i c6, .int .i64 0]) fun Al W I => absurd (oFa f14) (by rw [Classical.not_not]; omega)
def errR (n way : Int) (L : List ByteArray) : Int := if IsFm n then (if errL n L = 0 then (if 1 ≤ way ∧ way ≤ 5 then 0 else 6) else errL n L) else 6
def a1h (n way : Int) (L : List ByteArray) (fn : FuncId) (R : Vr × Nat) : Prop :=
 ∀ (xs : List Vp) (vs : List Value) (p : Option Addr) (c base u : Nat) (W : World), xs.map (·.v) = L.map (decP n) → vs = xs.flatMap Vp.cells → OwnS W base 29 4 p c L.length vs → (∀ x, x ∈ xs → Own W base .u32 76 x.p x.c (dig B32 x.v.d)) →
  Bt W u 153 #[.int .i64 n, .int .i64 way, .int .i64 (fmt n).g.rad, .int .i64 (fmt n).g.digs, .int .i64 (fmt n).g.lo, .int .i64 (fmt n).g.hi, .bool (fmt n).g.grad, .int .u8 (famB (fmt n)), .int .i64 0] → TabW W → base ≤ W.heap.size →
  Calls Tryd.prog fn #[.pointer (some ⟨u, 0, none⟩), .slice p L.length c] W (d0q (fmt n) n way u W base R)
def strR (n : Int) (r : Vr) : ByteArray := b0a ((fmt n).strP ((fmt n).encP r.cls r.neg r.x))
theorem x0o (n way : Int) (L : List ByteArray) (fn : FuncId) (R : Vr × Nat) (b m : Nat) (w : World) (hB0 : Bt w b 9 (L.map Value.string).toArray) (hm : m = L.length) (hl : L.length ≤ 1000) (hT : TabW w)
 (hfn : ∀ args w, (callFunc fn args).run Tryd.prog w = .ok (.enter fn args) w) (h0 : errR n way L = 0) (HD : a1h n way L fn R) (HR : ResF (fmt n) R.1) :
 Calls Tryd.prog 56 #[.int .i64 n, .int .i64 way, .func (.func fn) #[] #[], .slice (some ⟨b, 0, none⟩) m m] w fun en w' => en = .returned (.tuple #[.string (strR n R.1), .int .i64 ((R.2 : Nat) : Int), .int .i64 0]) ∧ Below w.heap.size w w' := by
 subst hm
 have hn : IsFm n := by unfold errR at h0; split at h0; assumption; omega
 unfold errR at h0
 rw [if_pos hn] at h0
 have hL : errL n L = 0 := by split at h0; assumption; contradiction
 rw [if_pos hL] at h0
 have hw : 1 ≤ way ∧ way ≤ 5 := by split at h0; assumption; omega
 clear h0
 obtain ⟨r, fl⟩ := R
 simp only at HR ⊢
 have HO1 := fun W => hi0 (q0f n 1 W hn (by omega))
 have HO2 := fun W => hi0 (q0f n way W hn hw)
 have HDe := fun W u h1 h2 h3 => hi0 (r0x n 1 0 L b L.length u W h1 h2 rfl hl hL h3)
 have HDo := fun xs vs p c base u W h1 h2 h3 h4 h5 h6 h7 => hi0 (HD xs vs p c base u W h1 h2 h3 h4 h5 h6 h7)
 have HT := fun W (v : Vl) p c base u h1 h2 h3 h4 => hi0 (g1b n way (fl : Int) ⟨v, p, c⟩ r base u W h1 h2 hn h3 HR h4)
 have hs : strR n r = b0a ((fmt n).strP ((fmt n).encP r.cls r.neg r.x)) := rfl
 rw [← hs] at HT
 clear hs
 generalize strR n r = s at *
 generalize fmt n = f at *
 have I := Inv.start w [btF b 9 (L.map Value.string).toArray, tabF] ⟨hB0, hT, True.intro⟩
 refine a0d [.v (.int .i64 n), .v (.int .i64 way), .v (.func (.func fn) #[] #[]), .v (.slice (some ⟨b, 0, none⟩) L.length L.length)] I Tryd.func56 ?_
 refine zg I (fun Al W I => (HO1 W).out) fun Al V Iv _ hB _ kz => ?_
 rintro _ W ⟨u16, rfl, hge, hB, hb⟩
 refine ⟨_, rfl, kz _ _ hb fun I => ?_⟩
 refine y0t Iv hb 0 u16 153 [(.int .i64 n), (.int .i64 1), (.int .i64 f.g.rad), (.int .i64 f.g.digs), (.int .i64 f.g.lo), (.int .i64 f.g.hi), (.bool f.g.grad), (.int .u8 (famB f)), (.int .i64 0)] hge hB fun Al hAl_16 I => ?_
 refine y0u I 17 0 u16 hAl_16 fun Al W I => ?_
 refine zg I (fun Al W I => (HDe W _ (I.box 0 153 _) I.fa.1 I.fa.2.1).out) fun Al V Iv _ hB _ kz => ?_
 rintro _ W ⟨xs, vs, p25, c25, rfl, hxs, hvs, oS, oL, hb⟩
 refine ⟨_, rfl, kz _ _ hb fun I => ?_⟩
 have I := I.owns oS
 have I := I.ownl oL
 refine zg I (fun Al W I => (HO2 W).out) fun Al V Iv _ hB _ kz => ?_
 rintro _ W ⟨u34, rfl, hge, hB, hb⟩
 refine ⟨_, rfl, kz _ _ hb fun I => ?_⟩
 refine y0t Iv hb 1 u34 153 [(.int .i64 n), (.int .i64 way), (.int .i64 f.g.rad), (.int .i64 f.g.digs), (.int .i64 f.g.lo), (.int .i64 f.g.hi), (.bool f.g.grad), (.int .u8 (famB f)), (.int .i64 0)] hge hB fun Al hAl_34 I => ?_
 refine y0u I 35 1 u34 hAl_34 fun Al W I => ?_
 refine zgfe (hf := hfn) I 1 153 (fun Al W I => (HDo xs vs p25 c25 _ _ W hxs hvs I.fa.2.1 I.fa.1 (I.box 1 153 _) I.fa.2.2.2.1 I.bel.size).out) fun Al V Iv _ _ kz => ?_
 rintro _ W ⟨v44, hR44, p44, c44, rfl, o44, hO, hB⟩
 refine ⟨_, rfl, kz _ (uS f n way (fl : Int)) _ hO hB fun I => ?_⟩
 have I := I.own o44
 refine zq I (fun Al W I => (HT W v44 p44 c44 _ _ (I.box 1 153 _) I.fa.1 hR44 I.fa.2.2.2.2.1).out) fun Al W I => ?_
 exact zrb I
theorem q0g (n way : Int) (L : List ByteArray) (fn : FuncId) (b m : Nat) (w : World) (hB0 : Bt w b 9 (L.map Value.string).toArray) (hm : m = L.length) (hl : L.length ≤ 1000) (hT : TabW w) (h0 : errR n way L ≠ 0) :
 Calls Tryd.prog 56 #[.int .i64 n, .int .i64 way, .func (.func fn) #[] #[], .slice (some ⟨b, 0, none⟩) m m] w fun en w' => en = .returned (.tuple #[.string (b0a []), .int .i64 0, .int .i64 (errR n way L)]) ∧ Below w.heap.size w w' := by
 subst hm
 unfold errR at h0 ⊢
 by_cases hn : IsFm n
 · rw [if_pos hn] at h0 ⊢
   have HO1 := fun W => hi0 (q0f n 1 W hn (by omega))
   by_cases hL : errL n L = 0
   · rw [if_pos hL] at h0 ⊢
     have hw : ¬ (1 ≤ way ∧ way ≤ 5) := fun h => h0 (if_pos h)
     rw [if_neg hw]
     have HO2 := fun W => hi0 (r0w n way W (fun h => hw h.2))
     have HDe := fun W u h1 h2 h3 => hi0 (r0x n 1 0 L b L.length u W h1 h2 rfl hl hL h3)
     generalize fmt n = f at *
     have I := Inv.start w [btF b 9 (L.map Value.string).toArray, tabF] ⟨hB0, hT, True.intro⟩
     refine a0d [.v (.int .i64 n), .v (.int .i64 way), .v (.func (.func fn) #[] #[]), .v (.slice (some ⟨b, 0, none⟩) L.length L.length)] I Tryd.func56 ?_
     refine zg I (fun Al W I => (HO1 W).out) fun Al V Iv _ hB _ kz => ?_
     rintro _ W ⟨u16, rfl, hge, hB, hb⟩
     refine ⟨_, rfl, kz _ _ hb fun I => ?_⟩
     refine y0t Iv hb 0 u16 153 [(.int .i64 n), (.int .i64 1), (.int .i64 f.g.rad), (.int .i64 f.g.digs), (.int .i64 f.g.lo), (.int .i64 f.g.hi), (.bool f.g.grad), (.int .u8 (famB f)), (.int .i64 0)] hge hB fun Al hAl_16 I => ?_
     refine y0u I 17 0 u16 hAl_16 fun Al W I => ?_
     refine zg I (fun Al W I => (HDe W _ (I.box 0 153 _) I.fa.1 I.fa.2.1).out) fun Al V Iv _ hB _ kz => ?_
     rintro _ W ⟨xs, vs, p25, c25, rfl, hxs, hvs, oS, oL, hb⟩
     refine ⟨_, rfl, kz _ _ hb fun I => ?_⟩
     have I := I.owns oS
     have I := I.ownl oL
     refine zq I (fun Al W I => (HO2 W).out) fun Al W I => ?_
     exact zrb I
   · rw [if_neg hL] at h0 ⊢
     have HDe := fun W u h1 h2 h3 => hi0 (o0s n 1 0 L b L.length u W h1 h2 rfl hl hL h3)
     generalize errL n L = er at *
     generalize fmt n = f at *
     have I := Inv.start w [btF b 9 (L.map Value.string).toArray, tabF] ⟨hB0, hT, True.intro⟩
     refine a0d [.v (.int .i64 n), .v (.int .i64 way), .v (.func (.func fn) #[] #[]), .v (.slice (some ⟨b, 0, none⟩) L.length L.length)] I Tryd.func56 ?_
     refine zg I (fun Al W I => (HO1 W).out) fun Al V Iv _ hB _ kz => ?_
     rintro _ W ⟨u16, rfl, hge, hB, hb⟩
     refine ⟨_, rfl, kz _ _ hb fun I => ?_⟩
     refine y0t Iv hb 0 u16 153 [(.int .i64 n), (.int .i64 1), (.int .i64 f.g.rad), (.int .i64 f.g.digs), (.int .i64 f.g.lo), (.int .i64 f.g.hi), (.bool f.g.grad), (.int .u8 (famB f)), (.int .i64 0)] hge hB fun Al hAl_16 I => ?_
     refine y0u I 17 0 u16 hAl_16 fun Al W I => ?_
     refine zq I (fun Al W I => (HDe W _ (I.box 0 153 _) I.fa.1 I.fa.2.1).out) fun Al W I => ?_
     refine zb I 29 (er != 0) (true) (bne_iff_ne.2 hL) fun Al W I => ?_
     exact zrb I
 · rw [if_neg hn]
   have HO1 := fun W => hi0 (r0w n 1 W (fun h => hn h.1))
   have I := Inv.start w [] True.intro
   refine a0d [.v (.int .i64 n), .v (.int .i64 way), .v (.func (.func fn) #[] #[]), .v (.slice (some ⟨b, 0, none⟩) L.length L.length)] I Tryd.func56 ?_
   refine zq I (fun Al W I => (HO1 W).out) fun Al W I => ?_
   exact zrb I
structure VrF (f : Fm) (r : Vr) : Prop where
 ok : VrOk r
 inf : r.cls = 3 → f.fam = 1
def refD (n : Int) (s : ByteArray) : Vr := (fmt n).refN (a0t (fmt n) s)
theorem g1e {f : Fm} (G : b0r f) (neg : Bool) {e frac : Nat} (h : e < 2 ^ f.E) : (f.dec neg e frac).p = 0 ∨ (f.g.lo ≤ (f.dec neg e frac).p ∧ (f.dec neg e frac).p ≤ f.g.hi + 1) := by
 have h3 := G.hi1
 have h4 := G.hi2
 have h5 := G.hi3
 have h6 := G.fam
 have gg := (b0z G.g).le
 have e1 := G.e1
 have hE1 : (2 : Nat) ^ 7 ≤ 2 ^ f.E := Nat.pow_le_pow_right (by omega) e1
 unfold Fm.dec
 generalize 2 ^ f.E = T at *
 repeat' split
 all_goals first | exact .inl rfl | (right; simp only; omega)
theorem d1u {f : Fm} (neg : Bool) {e frac : Nat} (h : (f.dec neg e frac).c = 3) : f.fam = 1 := by
 have h : (f.dec neg e frac).cls = 3 := by
  unfold Dc.c at h
  split at h <;> omega
 unfold Fm.dec at h
 split at h
 · simp at h
 · split at h
   · rename_i k
     exact k.1
   · split at h
     · split at h <;> simp at h
     · split at h
       · simp at h
       · split at h
         · simp at h
         · split at h <;> simp at h
theorem e0o {n : Int} {s : ByteArray} (hn : IsFm n) : VrF (fmt n) (refD n s) := by
 have G := e0c hn
 have GG := b0z G.g
 obtain ⟨w1, w2, w3⟩ := l0k G.g
 have he : (fmt n).exp (a0t (fmt n) s) < 2 ^ (fmt n).E := Nat.mod_lt _ (Nat.pow_pos (by omega))
 have hx : (fmt n).frac (a0t (fmt n) s) < 2 ^ (fmt n).F := Nat.mod_lt _ (Nat.pow_pos (by omega))
 have hm := c1z (f := fmt n) ((fmt n).neg (a0t (fmt n) s)) (e := (fmt n).exp (a0t (fmt n) s)) hx
 have hp := g1e G ((fmt n).neg (a0t (fmt n) s)) (frac := (fmt n).frac (a0t (fmt n) s)) he
 have hi := fun h => d1u (f := fmt n) ((fmt n).neg (a0t (fmt n) s)) (e := (fmt n).exp (a0t (fmt n) s)) (frac := (fmt n).frac (a0t (fmt n) s)) h
 have hcls := w0g (fmt n) ((fmt n).neg (a0t (fmt n) s)) ((fmt n).exp (a0t (fmt n) s)) ((fmt n).frac (a0t (fmt n) s))
 have z2 := G.f2
 unfold refD Fm.refN Fm.decN
 generalize (fmt n).dec ((fmt n).neg (a0t (fmt n) s)) ((fmt n).exp (a0t (fmt n) s)) ((fmt n).frac (a0t (fmt n) s)) = D at *
 generalize (fmt n).neg (a0t (fmt n) s) = g at *
 generalize fmt n = f at *
 have hc : 1 ≤ D.c ∧ D.c ≤ 5 := by unfold Dc.c; split <;> omega
 have hml : (dig B32 D.m).length ≤ 3 := a0m hm (by omega)
 have wp := b0g f.g
 have hwp : -17010 ≤ (wid f.g : Int) * D.p ∧ (wid f.g : Int) * D.p ≤ 17010 := by
  rcases hp with h | ⟨h1, h2⟩
  · rw [h, Int.mul_zero]; omega
  · have a1 : (wid f.g : Int) * f.g.lo ≤ wid f.g * D.p := Int.mul_le_mul_of_nonneg_left h1 (by omega)
    have a2 : (wid f.g : Int) * D.p ≤ wid f.g * (f.g.hi + 1) := Int.mul_le_mul_of_nonneg_left h2 (by omega)
    rw [Int.mul_add, Int.mul_one] at a2
    omega
 refine ⟨⟨hc, fun h => ?_, fun h => ?_, ?_, ?_, ?_, ?_⟩, hi⟩
 · have h : ¬ D.c = 2 := h
   unfold Fm.vr
   simp only [if_neg h]
   rfl
 · have h : D.c = 2 := h
   have hm0 := b1h h
   unfold Fm.vr
   simp only [h, if_true]
   obtain ⟨b1, b2⟩ := n0f (g := g) (e := (wid f.g : Int) * D.p) hm0
   exact ⟨b2, by rw [b1]; rfl⟩
 · unfold Fm.vr
   simp only
   split
   · exact f0m _
   · exact .inr rfl
 · unfold Fm.vr
   simp only
   split
   · exact Nat.le_trans (i0x a0a _) (by show (dig B32 D.m).length ≤ _; omega)
   · show (dig B32 0).length ≤ _; rw [a0e]; decide
 · unfold Fm.vr
   simp only
   split
   · have := q0t (⟨g, D.m, wid f.g * D.p⟩ : Dv) (n := 3) hml (lo := -17100) (hi := 17100) (by simp only; omega) (by simp only; omega) (by omega) (by omega)
     omega
   · show (-18000 : Int) ≤ 0; decide
 · unfold Fm.vr
   simp only
   split
   · have := q0t (⟨g, D.m, wid f.g * D.p⟩ : Dv) (n := 3) hml (lo := -17100) (hi := 17100) (by simp only; omega) (by simp only; omega) (by omega) (by omega)
     omega
   · show (0 : Int) ≤ 18000; decide
theorem a1i {n : Int} {s : ByteArray} (h0 : a0u n s = 0) : VRep (fmt n) (decP n s) (refD n s) := by
 obtain ⟨hn, hs⟩ := c0z.1 h0
 have G := e0c hn
 have hd : decP n s = (fmt n).valN (a0t (fmt n) s) := by unfold decP; rw [if_pos h0]
 have he : (fmt n).exp (a0t (fmt n) s) < 2 ^ (fmt n).E := Nat.mod_lt _ (Nat.pow_pos (by omega))
 have hx : (fmt n).frac (a0t (fmt n) s) < 2 ^ (fmt n).F := Nat.mod_lt _ (Nat.pow_pos (by omega))
 have hb := g1u G ((fmt n).neg (a0t (fmt n) s)) he hx ((fmt n).neg (a0t (fmt n) s))
 have hk := z0w (fmt n) ((fmt n).neg (a0t (fmt n) s)) ((fmt n).decN (a0t (fmt n) s))
 have ho := z0x (fmt n) ((fmt n).neg (a0t (fmt n) s)) ((fmt n).decN (a0t (fmt n) s))
 rw [hd]
 exact ⟨rfl, rfl, fun _ => hk, fun h => ho h, hb.1, hb.2.1, hb.2.2⟩
theorem k0t {n : Int} {s : ByteArray} (h0 : a0u n s = 0) {x : Vp} (hx : x.v = decP n s) : AtV (fmt n) x (refD n s) := by
 have F := e0o (s := s) (c0z.1 h0).1
 exact ⟨by rw [hx]; exact a1i h0, F.ok, F.inf⟩
/-! ### Results -/
theorem b1k {f : Fm} (G : b0r f) (x : Dv) (way : Int) : ResF f (f.numM x way).1 := by
 unfold Fm.numM
 split
 · exact k0q G _
 · exact (l0q G (by omega)).1
theorem b1l {f : Fm} (G : b0r f) (x y : Dv) (g h : Bool) (way : Int) : ResF f (f.sumM x y g h way).1 := by
 unfold Fm.sumM
 split
 · exact b1k G _ _
 · split <;> exact k0q G _
theorem q0h {f : Fm} {r : Vr} (h : r.cls = 3) (R : VrF f r) : ResF f r :=
 ⟨by omega, fun k => by omega, fun k => by omega, fun _ => R.inf h, fun k => by omega, fun k => by omega, fun _ => R.ok.x0 (by omega)⟩
theorem b1m {f : Fm} (G : b0r f) {a b : Vr} (A : VrF f a) (B : VrF f b) (way : Int) : ResF f (f.addM a b way).1 := by
 unfold Fm.addM
 split
 · exact d0a G
 · split
   · rename_i h
     split
     · exact d0a G
     · split
       · rename_i h3; exact q0h h3 A
       · rename_i h3; exact q0h (show b.cls = 3 by omega) B
   · exact b1l G _ _ _ _ _
theorem g1f {f : Fm} (G : b0r f) {a b : Vr} (A : a.cls = 3 → f.fam = 1) (B : b.cls = 3 → f.fam = 1) (way : Int) : ResF f (f.mulM a b way).1 := by
 unfold Fm.mulM
 split
 · exact d0a G
 · split
   · rename_i h
     split
     · exact d0a G
     · exact b1i (h.elim A B) _
   · split
     · exact k0q G _
     · exact b1k G _ _
theorem d1v (g : Bool) : VrOk (infM g) := ⟨by show 1 ≤ 3 ∧ 3 ≤ 5; omega, fun _ => rfl, fun h => (by cases h), .inr rfl, by show (dig B32 0).length ≤ _; rw [a0e]; decide, by show (-18000 : Int) ≤ 0; decide, by show (0 : Int) ≤ 18000; decide⟩
theorem a1j {f : Fm} (G : b0r f) {a b c : Vr} (A : a.cls = 3 → f.fam = 1) (B : b.cls = 3 → f.fam = 1) (C : VrF f c) (way : Int) : ResF f (f.fusedM a b c way).1 := by
 unfold Fm.fusedM
 split
 · exact d0a G
 · split
   · rename_i h
     split
     · exact d0a G
     · exact b1m G ⟨d1v _, fun _ => h.elim A B⟩ C way
   · split
     · rename_i h; exact q0h h C
     · exact b1l G _ _ _ _ _
theorem x0p {a : Dv} (h : a.m = 0) (e : Int) : zOf a e = 0 := by
 unfold zOf sg
 rw [h]
 simp
theorem b1n {a : Dv} {e : Int} (h : zOf a e = 0) : a.m = 0 := by
 unfold zOf sg at h
 have hp : 0 < 2 ^ (a.e - e).toNat := Nat.pow_pos (by omega)
 rcases Nat.eq_zero_or_pos a.m with k | k
 · exact k
 · have hq := Nat.mul_pos k hp
   have hz : (a.m : Int) * 2 ^ (a.e - e).toNat ≠ 0 := by
    have : (((a.m * 2 ^ (a.e - e).toNat : Nat)) : Int) ≠ 0 := by omega
    simpa using this
   split at h <;> first | exact absurd h hz | (exfalso; apply hz; simpa using h)
theorem a1k {x y : Dv} (h : (f0j x y).m = 0) : x.m = 0 ↔ y.m = 0 := by
 have k := u0r x y (e := min x.e y.e) (by omega) (by omega)
 rw [x0p h] at k
 constructor
 · intro hx
   rw [x0p hx] at k
   exact b1n (e := min x.e y.e) (by omega)
 · intro hy
   rw [x0p hy] at k
   exact b1n (e := min x.e y.e) (by omega)
theorem x0q (f : Fm) (x y : Dv) (g h : Bool) (way : Int) : f.sumM x y g h way = f.sumM y x h g way := by
 unfold Fm.sumM
 rw [s0p y x]
 by_cases k : (f0j x y).m ≠ 0
 · rw [if_pos k, if_pos k]
 · rw [if_neg k, if_neg k]
   have s := a1k (x := x) (y := y) (by omega)
   by_cases c : x.m = 0 ∧ g = h
   · rw [if_pos c, if_pos ⟨s.1 c.1, c.2.symm⟩, c.2]
   · rw [if_neg c, if_neg (fun q => c ⟨s.2 q.1, q.2.symm⟩)]
theorem x0r (f : Fm) {a b : Vr} (A : VrOk a) (B : VrOk b) (way : Int) : f.addM a b way = f.addM b a way := by
 unfold Fm.addM
 by_cases h4 : 4 ≤ a.cls ∨ 4 ≤ b.cls
 · rw [if_pos h4, if_pos h4.symm]
 · rw [if_neg h4, if_neg (fun q : 4 ≤ b.cls ∨ 4 ≤ a.cls => h4 q.symm)]
   by_cases h3 : a.cls = 3 ∨ b.cls = 3
   · rw [if_pos h3, if_pos (show b.cls = 3 ∨ a.cls = 3 from h3.symm)]
     by_cases c : a.cls = b.cls ∧ a.neg ≠ b.neg
     · rw [if_pos c, if_pos ⟨c.1.symm, Ne.symm c.2⟩]
     · rw [if_neg c, if_neg (fun q : b.cls = a.cls ∧ b.neg ≠ a.neg => c ⟨q.1.symm, Ne.symm q.2⟩)]
       by_cases ha : a.cls = 3
       · by_cases hb : b.cls = 3
         · have hn : a.neg = b.neg := by
            by_cases q : a.neg = b.neg
            · exact q
            · exact absurd ⟨ha.trans hb.symm, q⟩ c
           have hx := A.x0 (by omega)
           have hy := B.x0 (by omega)
           have : a = b := by cases a; cases b; simp only at hn hx hy ha hb; rw [hn, hx, hy, ha, hb]
           rw [this]
         · rw [if_pos ha, if_neg hb]
       · rw [if_neg ha, if_pos (h3.resolve_left ha)]
   · rw [if_neg h3, if_neg (fun q : b.cls = 3 ∨ a.cls = 3 => h3 q.symm)]
     exact x0q f _ _ _ _ way
theorem x0s (f : Fm) (a b : Vr) (way : Int) : f.mulM a b way = f.mulM b a way := by
 have e1 : (4 ≤ a.cls ∨ 4 ≤ b.cls) = (4 ≤ b.cls ∨ 4 ≤ a.cls) := propext ⟨Or.symm, Or.symm⟩
 have e2 : (a.cls = 3 ∨ b.cls = 3) = (b.cls = 3 ∨ a.cls = 3) := propext ⟨Or.symm, Or.symm⟩
 have e3 : (a.cls = 1 ∨ b.cls = 1) = (b.cls = 1 ∨ a.cls = 1) := propext ⟨Or.symm, Or.symm⟩
 have e4 : (a.neg != b.neg) = (b.neg != a.neg) := by cases a.neg <;> cases b.neg <;> rfl
 unfold Fm.mulM
 simp only [e1, e2, e3, e4, j0q a.x b.x]
theorem q0i (f : Fm) (a b c : Vr) (way : Int) : f.fusedM a b c way = f.fusedM b a c way := by
 have e1 : (4 ≤ a.cls ∨ 4 ≤ b.cls ∨ 4 ≤ c.cls) = (4 ≤ b.cls ∨ 4 ≤ a.cls ∨ 4 ≤ c.cls) := propext ⟨by omega, by omega⟩
 have e2 : (a.cls = 3 ∨ b.cls = 3) = (b.cls = 3 ∨ a.cls = 3) := propext ⟨Or.symm, Or.symm⟩
 have e3 : (a.cls = 1 ∨ b.cls = 1) = (b.cls = 1 ∨ a.cls = 1) := propext ⟨Or.symm, Or.symm⟩
 have e4 : (a.neg != b.neg) = (b.neg != a.neg) := by cases a.neg <;> cases b.neg <;> rfl
 unfold Fm.fusedM
 simp only [e1, e2, e3, e4, j0q a.x b.x]
theorem g0d {n : Int} {s : ByteArray} (hn : IsFm n) : a0u n s = 0 ∨ a0u n s = 1 := by
 unfold a0u
 rw [if_pos hn]
 split
 · exact .inl rfl
 · exact .inr rfl
theorem k0u (n way : Int) (s t : ByteArray) : errR n way [s, t] = errR n way [t, s] := by
 unfold errR
 by_cases hn : IsFm n
 · rw [if_pos hn, if_pos hn]
   unfold errL errL errL
   rcases g0d (s := s) hn with h | h <;> rcases g0d (s := t) hn with k | k <;> simp [h, k]
 · rw [if_neg hn, if_neg hn]
theorem l0s (n way : Int) (s t z : ByteArray) : errR n way [s, t, z] = errR n way [t, s, z] := by
 unfold errR
 by_cases hn : IsFm n
 · rw [if_pos hn, if_pos hn]
   unfold errL errL errL errL
   rcases g0d (s := s) hn with h | h <;> rcases g0d (s := t) hn with k | k <;> simp [h, k]
 · rw [if_neg hn, if_neg hn]
def outS (n way : Int) (L : List ByteArray) (R : Vr × Nat) : ByteArray := if errR n way L = 0 then strR n R.1 else b0a []
def outF (n way : Int) (L : List ByteArray) (R : Vr × Nat) : Nat := if errR n way L = 0 then R.2 else 0
theorem n0g {n way : Int} {L M : List ByteArray} {R T : Vr × Nat} (he : errR n way L = errR n way M) (h : errR n way L = 0 → R = T) : outS n way L R = outS n way M T ∧ outF n way L R = outF n way M T := by
 unfold outS outF
 by_cases h0 : errR n way L = 0
 · rw [h h0, if_pos h0, if_pos (he ▸ h0), if_pos h0, if_pos (he ▸ h0)]; exact ⟨rfl, rfl⟩
 · rw [if_neg h0, if_neg (he ▸ h0), if_neg h0, if_neg (he ▸ h0)]; exact ⟨rfl, rfl⟩
end Go.Proofs.YtmacohmclpnphaaDoor
namespace Go.Slip
open Go.RowKit
def o0t : List (Nat × SV) → Cfg → Cfg
 | [], c => c
 | (i, y) :: l, c => o0t l (i0i i y c)
section
variable {P : Program} {Q : Exit → Act → World → Prop} {E : List Nat} {w0 : World} {A : List Nat} {fs : List PF} {W : World} {c c' : Cfg}
theorem i0n (_ : Inv E w0 A c.bx fs W) (l : List (Nat × SV)) (h1 : ∀ A W, Inv E w0 A (nrm (o0t l c)).bx fs W → G P Q A (nrm (o0t l c)) W)
 (h2 : (∀ A W, Inv E w0 A (nrm (o0t l c)).bx fs W → G P Q A (nrm (o0t l c)) W) → G P Q A c W) : G P Q A c W := h2 h1
theorem zuse (K : ∀ A W, Inv E w0 A c'.bx fs W → G P Q A c' W) (I : Inv E w0 A c.bx fs W) (he : c = c' := by kernel_rfl) : G P Q A c W := by
 subst he
 exact K _ _ I
end
end Go.Slip
namespace Go.Slip
open Go.RowKit
def b1o (i : Nat) (c : Cfg) (A : List Nat) : Option VO :=
 match c.rg with
 | .dr ops _ _ (_ + 1) listed => match ops[i]? with
  | some o => match Region.noSelect ops && Region.free .any ops listed i && (Region.ready .any ops listed).contains i && wnt ops c.fr o with
   | true => match o.op with
    | .indexAddr t x j => some (.ix t (evr A c.fr x) (evr A c.fr j))
    | _ => none
   | false => none
  | none => none
 | _ => none
section
variable {P : Program} {Q : Exit → Act → World → Prop} {E : List Nat} {w0 : World} {A : List Nat} {fs : List PF} {W : World} {c : Cfg}
theorem zkx (i : Nat) (I : Inv E w0 A c.bx fs W) {vo : VO} (v : Value) (hx : ∀ W, vo.sem.run P W = .ok v W) (h : Inv E w0 A (i0i i (.v v) c).bx fs W → G P Q A (i0i i (.v v) c) W)
 (hv : b1o i c A = some vo := by kernel_rfl) (hm : dk1 c.rg c.bx = dk2 c.rg := by kernel_rfl) (hQ : f0f Q := by exact d0k) : G P Q A c W := by
 refine ⟨?_⟩
 have h := (h (by rw [r0c]; exact I)).out
 obtain ⟨cf, cb, rg, ks⟩ := c
 cases rg with
 | off => cases hv
 | pl => cases hv
 | one => cases hv
 | ret => cases hv
 | dr ops A0 m fuel listed =>
  cases fuel with
  | zero => cases hv
  | succ fuel =>
   unfold b1o at hv
   unfold i0i at h
   simp only at hv h
   intro pre
   split at hv
   · rename_i o hi
     rw [hi] at h
     split at hv
     · rename_i h1
       simp only [Bool.and_eq_true] at h1
       obtain ⟨⟨⟨h1, h2⟩, h3⟩, hw⟩ := h1
       split at hv
       · rename_i t x j hop
         simp only [Option.some.injEq] at hv
         subst hv
         have hS : SB A0 m W := v0f I pre hm
         have h : WpH P ops (post P Q ks) (SB A0 m) fuel (listed.setIfInBounds i true) (act A (putO cf o.dst (.v v))) W := h pre
         rw [← c0u] at h
         refine g0t i o.dst v _ hi rfl rfl h1 h2 h3 (fun c a w => d0v (P := P) hQ ks c a o.dst v w) (.inl ⟨by rw [e0u]; exact hw, fun w' _ => ?_⟩) hS h
         rw [b0o]
         unfold execOp
         have := hx w'
         unfold VO.sem at this
         simp only [hop, Sem.run_bind, this, Result.andThen_ok, Sem.run_pure]
       · cases hv
     · cases hv
   · cases hv
end
end Go.Slip
namespace Go.Proofs.YtmacohmclpnphaaDoor
open Go.RowKit Go.Slip
theorem x0t {n : Int} {s t : ByteArray} (h : errL n [s, t] = 0) : a0u n s = 0 ∧ a0u n t = 0 ∧ IsFm n := by
 have h1 := e0d n h s (by simp)
 exact ⟨h1, e0d n h t (by simp), (c0z.1 h1).1⟩
theorem r0y {n : Int} {xs : List Vp} {s t : ByteArray} (h : xs.map (·.v) = [s, t].map (decP n)) : ∃ x y, xs = [x, y] ∧ x.v = decP n s ∧ y.v = decP n t := by
 cases xs with
 | nil => simp at h
 | cons x l =>
  cases l with
  | nil => simp at h
  | cons y l =>
   cases l with
   | nil => simp only [List.map_cons, List.map_nil, List.cons.injEq, and_true] at h; exact ⟨x, y, rfl, h.1, h.2⟩
   | cons _ _ => simp at h
theorem a1l (n way : Int) (s t : ByteArray) (h0 : errL n [s, t] = 0) (hw : 1 ≤ way ∧ way ≤ 5) : a1h n way [s, t] 57 ((fmt n).addM (refD n s) (refD n t) way) := by
 intro xs vs p c base u w hxs hvs oS oL U hT hb
 obtain ⟨hs, ht, hn⟩ := x0t h0
 obtain ⟨x, y, rfl, hx, hy⟩ := r0y hxs
 have ox := oL x (by simp)
 have oy := oL y (by simp)
 have HA := fun W u h1 h2 h3 h4 h5 => hi0 (f1y (fmt n) n way x y (refD n s) (refD n t) base u W h1 h2 h3 h4 (k0t hs hx) (k0t ht hy) (e0c hn) hw h5)
 generalize (fmt n).addM (refD n s) (refD n t) way = R at *
 generalize fmt n = f at *
 subst hvs
 clear oL hx hy hxs h0 hs ht hn
 obtain ⟨r, fl⟩ := R
 have I := Inv.startW w u 153 (uS f n way 0) [g0w base 29 4 p c [s, t].length ([x, y].flatMap Vp.cells), ownF base .u32 76 x.p x.c (dig B32 x.v.d), ownF base .u32 76 y.p y.c (dig B32 y.v.d), tabF] U ⟨oS, ox, oy, hT, True.intro⟩ ⟨fun hf => oS.far U (by kernel_rfl) hf.1 hf.2, fun hf => ox.far U (by kernel_rfl) hf.1 hf.2, fun hf => oy.far U (by kernel_rfl) hf.1 hf.2, fun hf => hT.far U (by kernel_rfl) hf, True.intro⟩
 refine a0d [.p 0 0, .v (.slice p [s, t].length c)] I Tryd.func57 ?_
 refine zd [0, 1] I fun Al W I => ?_
 refine zk [0, 1] I fun I => ?_
 refine zkx 2 I (.pointer (some (at_ p (0 * 4)))) (fun _ => (h0n (m := 0) (n := [s, t].length) (c := c) k0r I.fa.1.solid (by simp))) fun I => ?_
 refine zk [4] I fun I => ?_
 refine zkx 5 I (.pointer (some (at_ p (1 * 4)))) (fun _ => (h0n (m := 1) (n := [s, t].length) (c := c) k0r I.fa.1.solid (by simp))) fun I => ?_
 refine i0n I [(3, .v (.agg #[.int .i64 (x.v.cls : Int), .bool x.v.neg, .slice x.p (dig B32 x.v.d).length x.c, .int .i64 x.v.pow])), (6, .v (.agg #[.int .i64 (y.v.cls : Int), .bool y.v.neg, .slice y.p (dig B32 y.v.d).length y.c, .int .i64 y.v.pow]))] (fun Al W I => ?_) (fun KL7 => ?_)
 · refine zo 7 I fun I => ?_
   refine zge I 0 153 (fun Al W I => have hzW := I.bel.size; (HA W _ (I.box 0 153 _) I.fa.2.1 I.fa.2.2.1 (by omega) I.fa.2.2.2.1).out) fun Al V Iv _ _ kz => ?_
   rintro _ W ⟨v12, hR12, p12, c12, rfl, o12, hO, hB⟩
   refine ⟨_, rfl, kz _ (uS f n way (fl : Int)) _ hO hB fun I => ?_⟩
   have I := I.ownB base o12
   refine zo 8 I fun I => ?_
   refine zn I fun Al W I => ?_
   exact zret I fun Al W I => ⟨v12, hR12, p12, c12, rfl, I.fa.1, I.bel, I.boxE 153 _⟩
 refine i0n I [(3, .v (.agg #[.int .i64 (x.v.cls : Int), .bool x.v.neg, .slice x.p (dig B32 x.v.d).length x.c, .int .i64 x.v.pow]))] (fun Al W I => ?_) (fun KL5 => ?_)
 · refine zo 6 I fun I => ?_
   refine zx I 11 (fun _ => .agg #[.int .i64 (y.v.cls : Int), .bool y.v.neg, .slice y.p (dig B32 y.v.d).length y.c, .int .i64 y.v.pow]) (fun Al W I => (c0t (m := 1 * 4) I.fa.1 e0f y.cells rfl rfl)) fun Al W I => ?_
   exact zuse KL7 I
 refine i0n I [(6, .v (.agg #[.int .i64 (y.v.cls : Int), .bool y.v.neg, .slice y.p (dig B32 y.v.d).length y.c, .int .i64 y.v.pow]))] (fun Al W I => ?_) (fun KL6 => ?_)
 · refine zo 3 I fun I => ?_
   refine zx I 8 (fun _ => .agg #[.int .i64 (x.v.cls : Int), .bool x.v.neg, .slice x.p (dig B32 x.v.d).length x.c, .int .i64 x.v.pow]) (fun Al W I => (c0t (m := 0 * 4) I.fa.1 e0f x.cells rfl rfl)) fun Al W I => ?_
   exact zuse KL7 I
 refine zo2 3 6 I (fun I => ?_) (fun I => ?_)
 · refine zx I 8 (fun _ => .agg #[.int .i64 (x.v.cls : Int), .bool x.v.neg, .slice x.p (dig B32 x.v.d).length x.c, .int .i64 x.v.pow]) (fun Al W I => (c0t (m := 0 * 4) I.fa.1 e0f x.cells rfl rfl)) fun Al W I => ?_
   exact zuse KL5 I
 refine zx I 11 (fun _ => .agg #[.int .i64 (y.v.cls : Int), .bool y.v.neg, .slice y.p (dig B32 y.v.d).length y.c, .int .i64 y.v.pow]) (fun Al W I => (c0t (m := 1 * 4) I.fa.1 e0f y.cells rfl rfl)) fun Al W I => ?_
 exact zuse KL6 I
def e0j (n way : Int) (L : List ByteArray) (R : Vr × Nat) (w : World) (en : Ending) (w' : World) : Prop :=
 (if errR n way L = 0 then en = .returned (.tuple #[.string (strR n R.1), .int .i64 ((R.2 : Nat) : Int), .int .i64 (errR n way L)]) else en = .returned (.tuple #[.string (b0a []), .int .i64 0, .int .i64 (errR n way L)])) ∧ Below w.heap.size w w'
theorem f0u {n way : Int} {L : List ByteArray} (h0 : errR n way L = 0) : IsFm n ∧ errL n L = 0 ∧ 1 ≤ way ∧ way ≤ 5 := by
 have hn : IsFm n := by unfold errR at h0; split at h0; assumption; omega
 unfold errR at h0
 rw [if_pos hn] at h0
 have hL : errL n L = 0 := by split at h0; assumption; contradiction
 rw [if_pos hL] at h0
 exact ⟨hn, hL, by split at h0; assumption; omega⟩
theorem n0h (n way : Int) (s t : ByteArray) (w : World) (hT : TabW w) : Calls Tryd.prog 18 #[.int .i64 n, .string s, .string t, .int .i64 way] w (e0j n way [s, t] ((fmt n).addM (refD n s) (refD n t) way) w) := by
 unfold e0j
 by_cases h0 : errR n way [s, t] = 0
 · obtain ⟨hn, hL, hw⟩ := f0u h0
   have HR := fun b m W h1 h2 h3 => hi0 (x0o n way [s, t] 57 _ b m W h1 h2 (by simp) h3 (fun _ _ => by kernel_rfl) h0 (a1l n way s t hL hw) (b1m (e0c hn) (e0o hn) (e0o hn) way))
   simp only [h0, if_true]
   generalize strR n ((fmt n).addM (refD n s) (refD n t) way).1 = str at *
   generalize ((fmt n).addM (refD n s) (refD n t) way).2 = fl at *
   have I := Inv.start w [tabF] ⟨hT, True.intro⟩
   refine a0d [.v (.int .i64 n), .v (.string s), .v (.string t), .v (.int .i64 way)] I Tryd.func18 ?_
   refine zq I (fun Al W I => (HR _ 2 W (I.box 0 9 _) rfl I.fa.1).out) fun Al W I => ?_
   exact zrb I
 · have HR := fun b m W h1 h2 h3 => hi0 (q0g n way [s, t] 57 b m W h1 h2 (by simp) h3 h0)
   simp only [if_neg h0]
   generalize errR n way [s, t] = er at *
   have I := Inv.start w [tabF] ⟨hT, True.intro⟩
   refine a0d [.v (.int .i64 n), .v (.string s), .v (.string t), .v (.int .i64 way)] I Tryd.func18 ?_
   refine zq I (fun Al W I => (HR _ 2 W (I.box 0 9 _) rfl I.fa.1).out) fun Al W I => ?_
   exact zrb I
theorem a1m (n way : Int) (s t : ByteArray) (h0 : errL n [s, t] = 0) (hw : 1 ≤ way ∧ way ≤ 5) : a1h n way [s, t] 59 ((fmt n).mulM (refD n s) (refD n t) way) := by
 intro xs vs p c base u w hxs hvs oS oL U hT hb
 obtain ⟨hs, ht, hn⟩ := x0t h0
 obtain ⟨x, y, rfl, hx, hy⟩ := r0y hxs
 have ox := oL x (by simp)
 have oy := oL y (by simp)
 have HA := fun W u h1 h2 h3 h4 h5 => hi0 (g1z (fmt n) n way x y (refD n s) (refD n t) base u W h1 h2 h3 h4 (k0t hs hx) (k0t ht hy) (e0c hn) hw h5)
 generalize (fmt n).mulM (refD n s) (refD n t) way = R at *
 generalize fmt n = f at *
 subst hvs
 clear oL hx hy hxs h0 hs ht hn
 obtain ⟨r, fl⟩ := R
 have I := Inv.startW w u 153 (uS f n way 0) [g0w base 29 4 p c [s, t].length ([x, y].flatMap Vp.cells), ownF base .u32 76 x.p x.c (dig B32 x.v.d), ownF base .u32 76 y.p y.c (dig B32 y.v.d), tabF] U ⟨oS, ox, oy, hT, True.intro⟩ ⟨fun hf => oS.far U (by kernel_rfl) hf.1 hf.2, fun hf => ox.far U (by kernel_rfl) hf.1 hf.2, fun hf => oy.far U (by kernel_rfl) hf.1 hf.2, fun hf => hT.far U (by kernel_rfl) hf, True.intro⟩
 refine a0d [.p 0 0, .v (.slice p [s, t].length c)] I Tryd.func59 ?_
 refine zd [0, 1] I fun Al W I => ?_
 refine zk [0, 1] I fun I => ?_
 refine zkx 2 I (.pointer (some (at_ p (0 * 4)))) (fun _ => (h0n (m := 0) (n := [s, t].length) (c := c) k0r I.fa.1.solid (by simp))) fun I => ?_
 refine zk [4] I fun I => ?_
 refine zkx 5 I (.pointer (some (at_ p (1 * 4)))) (fun _ => (h0n (m := 1) (n := [s, t].length) (c := c) k0r I.fa.1.solid (by simp))) fun I => ?_
 refine i0n I [(3, .v (.agg #[.int .i64 (x.v.cls : Int), .bool x.v.neg, .slice x.p (dig B32 x.v.d).length x.c, .int .i64 x.v.pow])), (6, .v (.agg #[.int .i64 (y.v.cls : Int), .bool y.v.neg, .slice y.p (dig B32 y.v.d).length y.c, .int .i64 y.v.pow]))] (fun Al W I => ?_) (fun KL7 => ?_)
 · refine zo 7 I fun I => ?_
   refine zge I 0 153 (fun Al W I => have hzW := I.bel.size; (HA W _ (I.box 0 153 _) I.fa.2.1 I.fa.2.2.1 (by omega) I.fa.2.2.2.1).out) fun Al V Iv _ _ kz => ?_
   rintro _ W ⟨v12, hR12, p12, c12, rfl, o12, hO, hB⟩
   refine ⟨_, rfl, kz _ (uS f n way (fl : Int)) _ hO hB fun I => ?_⟩
   have I := I.ownB base o12
   refine zo 8 I fun I => ?_
   refine zn I fun Al W I => ?_
   exact zret I fun Al W I => ⟨v12, hR12, p12, c12, rfl, I.fa.1, I.bel, I.boxE 153 _⟩
 refine i0n I [(3, .v (.agg #[.int .i64 (x.v.cls : Int), .bool x.v.neg, .slice x.p (dig B32 x.v.d).length x.c, .int .i64 x.v.pow]))] (fun Al W I => ?_) (fun KL5 => ?_)
 · refine zo 6 I fun I => ?_
   refine zx I 11 (fun _ => .agg #[.int .i64 (y.v.cls : Int), .bool y.v.neg, .slice y.p (dig B32 y.v.d).length y.c, .int .i64 y.v.pow]) (fun Al W I => (c0t (m := 1 * 4) I.fa.1 e0f y.cells rfl rfl)) fun Al W I => ?_
   exact zuse KL7 I
 refine i0n I [(6, .v (.agg #[.int .i64 (y.v.cls : Int), .bool y.v.neg, .slice y.p (dig B32 y.v.d).length y.c, .int .i64 y.v.pow]))] (fun Al W I => ?_) (fun KL6 => ?_)
 · refine zo 3 I fun I => ?_
   refine zx I 8 (fun _ => .agg #[.int .i64 (x.v.cls : Int), .bool x.v.neg, .slice x.p (dig B32 x.v.d).length x.c, .int .i64 x.v.pow]) (fun Al W I => (c0t (m := 0 * 4) I.fa.1 e0f x.cells rfl rfl)) fun Al W I => ?_
   exact zuse KL7 I
 refine zo2 3 6 I (fun I => ?_) (fun I => ?_)
 · refine zx I 8 (fun _ => .agg #[.int .i64 (x.v.cls : Int), .bool x.v.neg, .slice x.p (dig B32 x.v.d).length x.c, .int .i64 x.v.pow]) (fun Al W I => (c0t (m := 0 * 4) I.fa.1 e0f x.cells rfl rfl)) fun Al W I => ?_
   exact zuse KL5 I
 refine zx I 11 (fun _ => .agg #[.int .i64 (y.v.cls : Int), .bool y.v.neg, .slice y.p (dig B32 y.v.d).length y.c, .int .i64 y.v.pow]) (fun Al W I => (c0t (m := 1 * 4) I.fa.1 e0f y.cells rfl rfl)) fun Al W I => ?_
 exact zuse KL6 I
theorem r0z (n way : Int) (s t : ByteArray) (w : World) (hT : TabW w) : Calls Tryd.prog 19 #[.int .i64 n, .string s, .string t, .int .i64 way] w (e0j n way [s, t] ((fmt n).mulM (refD n s) (refD n t) way) w) := by
 unfold e0j
 by_cases h0 : errR n way [s, t] = 0
 · obtain ⟨hn, hL, hw⟩ := f0u h0
   have HR := fun b m W h1 h2 h3 => hi0 (x0o n way [s, t] 59 _ b m W h1 h2 (by simp) h3 (fun _ _ => by kernel_rfl) h0 (a1m n way s t hL hw) (g1f (e0c hn) (e0o hn).inf (e0o hn).inf way))
   simp only [h0, if_true]
   generalize strR n ((fmt n).mulM (refD n s) (refD n t) way).1 = str at *
   generalize ((fmt n).mulM (refD n s) (refD n t) way).2 = fl at *
   have I := Inv.start w [tabF] ⟨hT, True.intro⟩
   refine a0d [.v (.int .i64 n), .v (.string s), .v (.string t), .v (.int .i64 way)] I Tryd.func19 ?_
   refine zq I (fun Al W I => (HR _ 2 W (I.box 0 9 _) rfl I.fa.1).out) fun Al W I => ?_
   exact zrb I
 · have HR := fun b m W h1 h2 h3 => hi0 (q0g n way [s, t] 59 b m W h1 h2 (by simp) h3 h0)
   simp only [if_neg h0]
   generalize errR n way [s, t] = er at *
   have I := Inv.start w [tabF] ⟨hT, True.intro⟩
   refine a0d [.v (.int .i64 n), .v (.string s), .v (.string t), .v (.int .i64 way)] I Tryd.func19 ?_
   refine zq I (fun Al W I => (HR _ 2 W (I.box 0 9 _) rfl I.fa.1).out) fun Al W I => ?_
   exact zrb I
theorem x0u {n : Int} {s t z : ByteArray} (h : errL n [s, t, z] = 0) : a0u n s = 0 ∧ a0u n t = 0 ∧ a0u n z = 0 ∧ IsFm n := by
 have h1 := e0d n h s (by simp)
 exact ⟨h1, e0d n h t (by simp), e0d n h z (by simp), (c0z.1 h1).1⟩
theorem t0m {n : Int} {xs : List Vp} {s t z : ByteArray} (h : xs.map (·.v) = [s, t, z].map (decP n)) : ∃ x y q, xs = [x, y, q] ∧ x.v = decP n s ∧ y.v = decP n t ∧ q.v = decP n z := by
 cases xs with
 | nil => simp at h
 | cons x l =>
  cases l with
  | nil => simp at h
  | cons y l =>
   cases l with
   | nil => simp at h
   | cons q l =>
    cases l with
    | nil => simp only [List.map_cons, List.map_nil, List.cons.injEq, and_true] at h; exact ⟨x, y, q, rfl, h.1, h.2.1, h.2.2⟩
    | cons _ _ => simp at h
theorem t0n (n way : Int) (s t z : ByteArray) (h0 : errL n [s, t, z] = 0) (hw : 1 ≤ way ∧ way ≤ 5) : a1h n way [s, t, z] 61 ((fmt n).fusedM (refD n s) (refD n t) (refD n z) way) := by
 intro xs vs p c base u w hxs hvs oS oL U hT hb
 obtain ⟨hs, ht, hz, hn⟩ := x0u h0
 obtain ⟨x, y, q, rfl, hx, hy, hq⟩ := t0m hxs
 have ox := oL x (by simp)
 have oy := oL y (by simp)
 have oq := oL q (by simp)
 have HA := fun W u h1 h2 h3 h4 h5 h6 => hi0 (d1s (fmt n) n way x y q (refD n s) (refD n t) (refD n z) base u W h1 h2 h3 h4 h5 (k0t hs hx) (k0t ht hy) (k0t hz hq) (e0c hn) hw h6)
 generalize (fmt n).fusedM (refD n s) (refD n t) (refD n z) way = R at *
 generalize fmt n = f at *
 subst hvs
 clear oL hx hy hq hxs h0 hs ht hz hn
 obtain ⟨r, fl⟩ := R
 have I := Inv.startW w u 153 (uS f n way 0) [g0w base 29 4 p c [s, t, z].length ([x, y, q].flatMap Vp.cells), ownF base .u32 76 x.p x.c (dig B32 x.v.d), ownF base .u32 76 y.p y.c (dig B32 y.v.d), ownF base .u32 76 q.p q.c (dig B32 q.v.d), tabF] U ⟨oS, ox, oy, oq, hT, True.intro⟩ ⟨fun hf => oS.far U (by kernel_rfl) hf.1 hf.2, fun hf => ox.far U (by kernel_rfl) hf.1 hf.2, fun hf => oy.far U (by kernel_rfl) hf.1 hf.2, fun hf => oq.far U (by kernel_rfl) hf.1 hf.2, fun hf => hT.far U (by kernel_rfl) hf, True.intro⟩
 refine a0d [.p 0 0, .v (.slice p [s, t, z].length c)] I Tryd.func61 ?_
 refine zd [0, 1] I fun Al W I => ?_
 refine zk [0, 1] I fun I => ?_
 refine zkx 2 I (.pointer (some (at_ p (0 * 4)))) (fun _ => (h0n (m := 0) (n := [s, t, z].length) (c := c) k0r I.fa.1.solid (by simp))) fun I => ?_
 refine zk [4] I fun I => ?_
 refine zkx 5 I (.pointer (some (at_ p (1 * 4)))) (fun _ => (h0n (m := 1) (n := [s, t, z].length) (c := c) k0r I.fa.1.solid (by simp))) fun I => ?_
 refine zk [7] I fun I => ?_
 refine zkx 8 I (.pointer (some (at_ p (2 * 4)))) (fun _ => (h0n (m := 2) (n := [s, t, z].length) (c := c) k0r I.fa.1.solid (by simp))) fun I => ?_
 refine i0n I [(3, .v (.agg #[.int .i64 (x.v.cls : Int), .bool x.v.neg, .slice x.p (dig B32 x.v.d).length x.c, .int .i64 x.v.pow])), (6, .v (.agg #[.int .i64 (y.v.cls : Int), .bool y.v.neg, .slice y.p (dig B32 y.v.d).length y.c, .int .i64 y.v.pow])), (9, .v (.agg #[.int .i64 (q.v.cls : Int), .bool q.v.neg, .slice q.p (dig B32 q.v.d).length q.c, .int .i64 q.v.pow]))] (fun Al W I => ?_) (fun KL15 => ?_)
 · refine zo 10 I fun I => ?_
   refine zge I 0 153 (fun Al W I => have hzW := I.bel.size; (HA W _ (I.box 0 153 _) I.fa.2.1 I.fa.2.2.1 I.fa.2.2.2.1 (by omega) I.fa.2.2.2.2.1).out) fun Al V Iv _ _ kz => ?_
   rintro _ W ⟨v12, hR12, p12, c12, rfl, o12, hO, hB⟩
   refine ⟨_, rfl, kz _ (uS f n way (fl : Int)) _ hO hB fun I => ?_⟩
   have I := I.ownB base o12
   refine zo 11 I fun I => ?_
   refine zn I fun Al W I => ?_
   exact zret I fun Al W I => ⟨v12, hR12, p12, c12, rfl, I.fa.1, I.bel, I.boxE 153 _⟩
 refine i0n I [(3, .v (.agg #[.int .i64 (x.v.cls : Int), .bool x.v.neg, .slice x.p (dig B32 x.v.d).length x.c, .int .i64 x.v.pow])), (6, .v (.agg #[.int .i64 (y.v.cls : Int), .bool y.v.neg, .slice y.p (dig B32 y.v.d).length y.c, .int .i64 y.v.pow]))] (fun Al W I => ?_) (fun KL12 => ?_)
 · refine zo 9 I fun I => ?_
   refine zx I 14 (fun _ => .agg #[.int .i64 (q.v.cls : Int), .bool q.v.neg, .slice q.p (dig B32 q.v.d).length q.c, .int .i64 q.v.pow]) (fun Al W I => (c0t (m := 2 * 4) I.fa.1 e0f q.cells rfl rfl)) fun Al W I => ?_
   exact zuse KL15 I
 refine i0n I [(3, .v (.agg #[.int .i64 (x.v.cls : Int), .bool x.v.neg, .slice x.p (dig B32 x.v.d).length x.c, .int .i64 x.v.pow])), (9, .v (.agg #[.int .i64 (q.v.cls : Int), .bool q.v.neg, .slice q.p (dig B32 q.v.d).length q.c, .int .i64 q.v.pow]))] (fun Al W I => ?_) (fun KL13 => ?_)
 · refine zo 6 I fun I => ?_
   refine zx I 11 (fun _ => .agg #[.int .i64 (y.v.cls : Int), .bool y.v.neg, .slice y.p (dig B32 y.v.d).length y.c, .int .i64 y.v.pow]) (fun Al W I => (c0t (m := 1 * 4) I.fa.1 e0f y.cells rfl rfl)) fun Al W I => ?_
   exact zuse KL15 I
 refine i0n I [(6, .v (.agg #[.int .i64 (y.v.cls : Int), .bool y.v.neg, .slice y.p (dig B32 y.v.d).length y.c, .int .i64 y.v.pow])), (9, .v (.agg #[.int .i64 (q.v.cls : Int), .bool q.v.neg, .slice q.p (dig B32 q.v.d).length q.c, .int .i64 q.v.pow]))] (fun Al W I => ?_) (fun KL14 => ?_)
 · refine zo 3 I fun I => ?_
   refine zx I 8 (fun _ => .agg #[.int .i64 (x.v.cls : Int), .bool x.v.neg, .slice x.p (dig B32 x.v.d).length x.c, .int .i64 x.v.pow]) (fun Al W I => (c0t (m := 0 * 4) I.fa.1 e0f x.cells rfl rfl)) fun Al W I => ?_
   exact zuse KL15 I
 refine i0n I [(3, .v (.agg #[.int .i64 (x.v.cls : Int), .bool x.v.neg, .slice x.p (dig B32 x.v.d).length x.c, .int .i64 x.v.pow]))] (fun Al W I => ?_) (fun KL9 => ?_)
 · refine zo2 6 9 I (fun I => ?_) (fun I => ?_)
   · refine zx I 11 (fun _ => .agg #[.int .i64 (y.v.cls : Int), .bool y.v.neg, .slice y.p (dig B32 y.v.d).length y.c, .int .i64 y.v.pow]) (fun Al W I => (c0t (m := 1 * 4) I.fa.1 e0f y.cells rfl rfl)) fun Al W I => ?_
     exact zuse KL12 I
   refine zx I 14 (fun _ => .agg #[.int .i64 (q.v.cls : Int), .bool q.v.neg, .slice q.p (dig B32 q.v.d).length q.c, .int .i64 q.v.pow]) (fun Al W I => (c0t (m := 2 * 4) I.fa.1 e0f q.cells rfl rfl)) fun Al W I => ?_
   exact zuse KL13 I
 refine i0n I [(6, .v (.agg #[.int .i64 (y.v.cls : Int), .bool y.v.neg, .slice y.p (dig B32 y.v.d).length y.c, .int .i64 y.v.pow]))] (fun Al W I => ?_) (fun KL10 => ?_)
 · refine zo2 3 9 I (fun I => ?_) (fun I => ?_)
   · refine zx I 8 (fun _ => .agg #[.int .i64 (x.v.cls : Int), .bool x.v.neg, .slice x.p (dig B32 x.v.d).length x.c, .int .i64 x.v.pow]) (fun Al W I => (c0t (m := 0 * 4) I.fa.1 e0f x.cells rfl rfl)) fun Al W I => ?_
     exact zuse KL12 I
   refine zx I 14 (fun _ => .agg #[.int .i64 (q.v.cls : Int), .bool q.v.neg, .slice q.p (dig B32 q.v.d).length q.c, .int .i64 q.v.pow]) (fun Al W I => (c0t (m := 2 * 4) I.fa.1 e0f q.cells rfl rfl)) fun Al W I => ?_
   exact zuse KL14 I
 refine i0n I [(9, .v (.agg #[.int .i64 (q.v.cls : Int), .bool q.v.neg, .slice q.p (dig B32 q.v.d).length q.c, .int .i64 q.v.pow]))] (fun Al W I => ?_) (fun KL11 => ?_)
 · refine zo2 3 6 I (fun I => ?_) (fun I => ?_)
   · refine zx I 8 (fun _ => .agg #[.int .i64 (x.v.cls : Int), .bool x.v.neg, .slice x.p (dig B32 x.v.d).length x.c, .int .i64 x.v.pow]) (fun Al W I => (c0t (m := 0 * 4) I.fa.1 e0f x.cells rfl rfl)) fun Al W I => ?_
     exact zuse KL13 I
   refine zx I 11 (fun _ => .agg #[.int .i64 (y.v.cls : Int), .bool y.v.neg, .slice y.p (dig B32 y.v.d).length y.c, .int .i64 y.v.pow]) (fun Al W I => (c0t (m := 1 * 4) I.fa.1 e0f y.cells rfl rfl)) fun Al W I => ?_
   exact zuse KL14 I
 refine zo3 3 6 9 I (fun I => ?_) (fun I => ?_) (fun I => ?_)
 · refine zx I 8 (fun _ => .agg #[.int .i64 (x.v.cls : Int), .bool x.v.neg, .slice x.p (dig B32 x.v.d).length x.c, .int .i64 x.v.pow]) (fun Al W I => (c0t (m := 0 * 4) I.fa.1 e0f x.cells rfl rfl)) fun Al W I => ?_
   exact zuse KL9 I
 · refine zx I 11 (fun _ => .agg #[.int .i64 (y.v.cls : Int), .bool y.v.neg, .slice y.p (dig B32 y.v.d).length y.c, .int .i64 y.v.pow]) (fun Al W I => (c0t (m := 1 * 4) I.fa.1 e0f y.cells rfl rfl)) fun Al W I => ?_
   exact zuse KL10 I
 refine zx I 14 (fun _ => .agg #[.int .i64 (q.v.cls : Int), .bool q.v.neg, .slice q.p (dig B32 q.v.d).length q.c, .int .i64 q.v.pow]) (fun Al W I => (c0t (m := 2 * 4) I.fa.1 e0f q.cells rfl rfl)) fun Al W I => ?_
 exact zuse KL11 I
theorem l0t (n way : Int) (s t z : ByteArray) (w : World) (hT : TabW w) : Calls Tryd.prog 20 #[.int .i64 n, .string s, .string t, .string z, .int .i64 way] w (e0j n way [s, t, z] ((fmt n).fusedM (refD n s) (refD n t) (refD n z) way) w) := by
 unfold e0j
 by_cases h0 : errR n way [s, t, z] = 0
 · obtain ⟨hn, hL, hw⟩ := f0u h0
   have HR := fun b m W h1 h2 h3 => hi0 (x0o n way [s, t, z] 61 _ b m W h1 h2 (by simp) h3 (fun _ _ => by kernel_rfl) h0 (t0n n way s t z hL hw) (a1j (e0c hn) (e0o hn).inf (e0o hn).inf (e0o hn) way))
   simp only [h0, if_true]
   generalize strR n ((fmt n).fusedM (refD n s) (refD n t) (refD n z) way).1 = str at *
   generalize ((fmt n).fusedM (refD n s) (refD n t) (refD n z) way).2 = fl at *
   have I := Inv.start w [tabF] ⟨hT, True.intro⟩
   refine a0d [.v (.int .i64 n), .v (.string s), .v (.string t), .v (.string z), .v (.int .i64 way)] I Tryd.func20 ?_
   refine zq I (fun Al W I => (HR _ 3 W (I.box 0 9 _) rfl I.fa.1).out) fun Al W I => ?_
   exact zrb I
 · have HR := fun b m W h1 h2 h3 => hi0 (q0g n way [s, t, z] 61 b m W h1 h2 (by simp) h3 h0)
   simp only [if_neg h0]
   generalize errR n way [s, t, z] = er at *
   have I := Inv.start w [tabF] ⟨hT, True.intro⟩
   refine a0d [.v (.int .i64 n), .v (.string s), .v (.string t), .v (.string z), .v (.int .i64 way)] I Tryd.func20 ?_
   refine zq I (fun Al W I => (HR _ 3 W (I.box 0 9 _) rfl I.fa.1).out) fun Al W I => ?_
   exact zrb I
theorem i0o {n way : Int} {L : List ByteArray} {R : Vr × Nat} {w : World} {fn : FuncId} {args : Array Value} (h : Calls Tryd.prog fn args w (e0j n way L R w)) :
 Calls Tryd.prog fn args w fun en w' => en = .returned (.tuple #[.string (outS n way L R), .int .i64 ((outF n way L R : Nat) : Int), .int .i64 (errR n way L)]) ∧ Below w.heap.size w w' := by
 refine h.mono fun en w' hh => ⟨?_, hh.2⟩
 unfold outS outF
 have := hh.1
 by_cases h0 : errR n way L = 0
 · rw [if_pos h0] at this ⊢; rw [if_pos h0]; exact this
 · rw [if_neg h0] at this ⊢; rw [if_neg h0]; exact this
end Go.Proofs.YtmacohmclpnphaaDoor
namespace Go.Slip
open Go.RowKit
end Go.Slip
namespace Go.Proofs.YtmacohmclpnphaaDoor
open Go.RowKit Go.Slip
structure Wp where
 r : Vr
 p : Option Addr
 c : Nat
def Wp.cells (x : Wp) : List Value := [.int .i64 (x.r.cls : Int), .bool x.r.neg, .bool x.r.x.neg, .slice x.p (dig B16 x.r.x.m).length x.c, .int .i64 x.r.x.e]
theorem Wp.len (x : Wp) : x.cells.length = 5 := rfl
structure TnD (a : Dv) : Prop where
 len : (dig B32 a.m).length ≤ 40
 lo : -38000 ≤ a.e
 hi : a.e ≤ 38000
theorem VrOk.tn {r : Vr} (R : VrOk r) : TnD r.x := ⟨by have := R.len; omega, by have := R.lo; omega, by have := R.hi; omega⟩
theorem TnD.sm {a : Dv} (h : TnD a) : SmD a := ⟨by have := h.len; omega, by have := h.lo; omega, by have := h.hi; omega⟩
theorem q0j {m k : Nat} (h1 : 2 ^ k ≤ m) (h2 : m < 2 ^ (k + 1)) : blen m = k + 1 := by
 have a := (a0z m (k + 1)).2 h2
 have b : ¬ blen m ≤ k := fun h => by have := (a0z m k).1 h; omega
 omega
def oneS : ByteArray := b0a [63, 128, 0, 0]
def twoS : ByteArray := b0a [64, 0, 0, 0]
theorem d1w : a0t (fmt 1) oneS = 1065353216 := by
 unfold a0t oneS
 rw [n0d (by decide)]
 decide +kernel
theorem d1x : a0u 1 oneS = 0 := c0z.2 ⟨by decide, by unfold oneS; rw [s0e]; rfl⟩
theorem d1y : refD 1 oneS = ⟨2, false, ⟨false, 1, 0⟩⟩ := by
 unfold refD
 rw [d1w]
 have hd : (fmt 1).decN 1065353216 = ⟨2, 8388608, -23⟩ := by kernel_rfl
 have hg : (fmt 1).neg 1065353216 = false := by decide +kernel
 unfold Fm.refN Fm.vr
 rw [hd, hg]
 have ht : tz 8388608 = 23 := j0i 1 23 rfl
 have hw : wid (fmt 1).g = 1 := by decide
 unfold Dc.c bare
 simp [ht, hw]
theorem d1z : f0j ⟨false, 1, 0⟩ ⟨false, 1, 0⟩ = ⟨false, 1, 1⟩ := by
 rw [f0z _ _ (e := 0) (by decide) (by decide)]
 have hz : zOf ⟨false, 1, 0⟩ 0 + zOf ⟨false, 1, 0⟩ 0 = 2 := by decide
 rw [hz]
 have ht : tz 2 = 1 := j0i 1 1 rfl
 unfold norm ofZ bare
 simp [ht]
theorem e1a : (fmt 1).addM ⟨2, false, ⟨false, 1, 0⟩⟩ ⟨2, false, ⟨false, 1, 0⟩⟩ 1 = (⟨2, false, ⟨false, 1, 1⟩⟩, 0) := by
 have hK : theK 1 1 1 1 24 = -22 := by
  have h := p0v (m := 1) (by decide) 1 (w := 1) (D := 24) (by decide) (by decide)
  rw [show blen 1 = 1 from q0j (k := 0) (by decide) (by decide)] at h
  exact c1w (by decide) (by decide) (by decide) (by decide) h
 have hR : a0s false 1 1 1 (fmt 1).g 1 = ⟨false, 8388608, -22, true, false, false⟩ := by
  unfold a0s
  rw [if_neg (by decide), show wid (fmt 1).g = 1 from rfl, show (fmt 1).g.digs.toNat = 24 from rfl, hK]
  kernel_rfl
 have ht : tz 8388608 = 23 := j0i 1 23 rfl
 unfold Fm.addM
 rw [if_neg (by decide), if_neg (by decide)]
 unfold Fm.sumM
 rw [d1z, if_pos (by decide)]
 unfold Fm.numM
 rw [if_neg (by decide), hR]
 unfold Fm.placedM Fm.flP bare
 have hw : wid (fmt 1).g = 1 := by decide
 simp [ht, hw]
theorem e1b : strR 1 ⟨2, false, ⟨false, 1, 1⟩⟩ = twoS := by
 have hb : blen 1 = 1 := q0j (k := 0) (by decide) (by decide)
 have h24 : blen 8388608 = 24 := q0j (k := 23) (by decide) (by decide)
 have hs : c0a ⟨false, 1, 1⟩ (fmt 1).g = -22 := by
  unfold c0a upK topD
  simp only [hb]
  decide
 have hf : (fmt 1).fr ⟨false, 1, 1⟩ = 8388608 := by
  unfold Fm.fr
  rw [hs]
  decide
 have hn : (fmt 1).numP ⟨false, 1, 1⟩ = ⟨false, 128, 0⟩ := by
  unfold Fm.numP
  rw [hf, hs, h24]
  kernel_rfl
 have he : (fmt 1).encP 2 false ⟨false, 1, 1⟩ = ⟨false, 128, 0⟩ := hn
 have h2 : (fmt 1).strP ⟨false, 128, 0⟩ = [64, 0, 0, 0] := by decide +kernel
 unfold strR twoS
 simp only
 rw [he, h2]
theorem a1n : errR 1 1 [oneS, oneS] = 0 := by
 unfold errR errL errL errL
 rw [d1x]
 decide
theorem k0x (w : World) (hT : TabW w) : Calls Tryd.prog 17 #[] w fun en w' => en = .returned (.bool true) ∧ Below w.heap.size w w' := by
 have HA : ∀ W, TabW W → Hid (Calls Tryd.prog 18 #[.int .i64 1, .string oneS, .string oneS, .int .i64 1] W fun en w' => en = .returned (.tuple #[.string twoS, .int .i64 0, .int .i64 0]) ∧ Below W.heap.size W w') := by
  intro W h
  have := n0h 1 1 oneS oneS W h
  unfold e0j at this
  rw [a1n, d1y, e1a] at this
  simp only [e1b, if_true] at this
  exact hi0 this
 refine calls_of_wp Tryd.func17 rfl ?_
 refine a0x (a' := ⟨(us 26 []).toArray, []⟩) (by kernel_rfl) ?_
 refine yq ?_
 refine ye ?_
 refine ywv 0 rfl 5 (.slice (some ⟨w.heap.size, 0, none⟩) 4 4) #[.int .u8 63, .int .u8 128, .int .u8 0, .int .u8 0] 5 (fun V1 hbV1 hzV1 b5 => ?_)
 refine yv 0 rfl 6 (.string oneS) ?_ (j0a (p := some ⟨w.heap.size, 0, none⟩) (n := 4) (c := 4) (xs := [63, 128, 0, 0]) o0k w0o uStr (x0e b5) rfl (by kernel_rfl))
 refine yzt 1 ?_
 refine ye ?_
 replace hT := (hT.past hbV1)
 refine yc 2 rfl 10 ((HA V1 hT).out) (fun Gx hGx => ?_)
 rintro eV2 V2 ⟨rfl, hbV2⟩
 have hzV2 := hbV2.size
 refine ⟨_, rfl, hGx _ _ ?_⟩
 clear hGx Gx
 refine yzt 7 ?_
 refine ye ?_
 refine ywv 8 rfl 22 (.slice (some ⟨V2.heap.size, 0, none⟩) 4 4) #[.int .u8 64, .int .u8 0, .int .u8 0, .int .u8 0] 5 (fun V3 hbV3 hzV3 b22 => ?_)
 refine yv 0 rfl 23 (.string twoS) ?_ (j0a (p := some ⟨V2.heap.size, 0, none⟩) (n := 4) (c := 4) (xs := [64, 0, 0, 0]) o0k w0o uStr (x0e b22) rfl (by kernel_rfl))
 refine yv 0 rfl 24 (.bool true) ?_ (a1d (s := twoS) (by kernel_rfl) (by kernel_rfl))
 refine yzt 2 ?_
 refine wp_ret ?_
 repeat (first | with_reducible refine a0p ?_ | with_reducible refine a0o ?_)
 refine yret (.bool true) (res1 Tryd.results17 rvt) ?_
 exact ⟨rfl, (a0c (a0c hbV1 hbV2) hbV3)⟩
theorem k0y (n : Int) (s t z : ByteArray) (way : Int) (w : World) (hT : TabW w) : Calls Tryd.prog 4 #[.int .i64 n, .string s, .string t, .string z, .int .i64 way] w fun en w' => en = .returned (.bool true) ∧ Below w.heap.size w w' := by
 have HB0 := fun W h => hi0 (k0x W h)
 have A1 := fun W h => hi0 (i0o (n0h n way s t W h))
 have A2 := fun W h => hi0 (i0o (n0h n way t s W h))
 have M1 := fun W h => hi0 (i0o (r0z n way s t W h))
 have M2 := fun W h => hi0 (i0o (r0z n way t s W h))
 have F1 := fun W h => hi0 (i0o (l0t n way s t z W h))
 have F2 := fun W h => hi0 (i0o (l0t n way t s z W h))
 obtain ⟨a1, a2⟩ := n0g (k0u n way t s) (R := (fmt n).addM (refD n t) (refD n s) way) (T := (fmt n).addM (refD n s) (refD n t) way) fun h => x0r _ (e0o (f0u h).1).ok (e0o (f0u h).1).ok way
 obtain ⟨m1, m2⟩ := n0g (k0u n way t s) (R := (fmt n).mulM (refD n t) (refD n s) way) (T := (fmt n).mulM (refD n s) (refD n t) way) fun _ => x0s _ _ _ way
 obtain ⟨f1, f2⟩ := n0g (l0s n way t s z) (R := (fmt n).fusedM (refD n t) (refD n s) (refD n z) way) (T := (fmt n).fusedM (refD n s) (refD n t) (refD n z) way) fun _ => q0i _ _ _ _ way
 rw [k0u n way t s] at A2 M2
 rw [l0s n way t s z] at F2
 rw [a1, a2] at A2
 rw [m1, m2] at M2
 rw [f1, f2] at F2
 clear a1 a2 m1 m2 f1 f2
 generalize outS n way [s, t] _ = sa at A1 A2
 generalize outF n way [s, t] _ = fa at A1 A2
 generalize outS n way [s, t] _ = sm at M1 M2
 generalize outF n way [s, t] _ = fm at M1 M2
 generalize outS n way [s, t, z] _ = sf at F1 F2
 generalize outF n way [s, t, z] _ = ff at F1 F2
 generalize errR n way [s, t] = er at *
 generalize errR n way [s, t, z] = er3 at *
 have I := Inv.start w [tabF] ⟨hT, True.intro⟩
 refine a0d [.v (.int .i64 n), .v (.string s), .v (.string t), .v (.string z), .v (.int .i64 way)] I Tryd.func4 ?_
 refine zq I (fun Al W I => (HB0 W I.fa.1).out) fun Al W I => ?_
 refine zq I (fun Al W I => (A1 W I.fa.1).out) fun Al W I => ?_
 refine zq I (fun Al W I => (A2 W I.fa.1).out) fun Al W I => ?_
 refine zb I 39 (er != er) (false) (bne_self_eq_false _) fun Al W I => ?_
 refine zbin I 43 _ (fun _ _ _ _ _ => v0r sa) fun Al W I => ?_
 refine zb I 48 ((fa : Int) != (fa : Int)) (false) (bne_self_eq_false _) fun Al W I => ?_
 refine zq I (fun Al W I => (M1 W I.fa.1).out) fun Al W I => ?_
 refine zq I (fun Al W I => (M2 W I.fa.1).out) fun Al W I => ?_
 refine zb I 70 (er != er) (false) (bne_self_eq_false _) fun Al W I => ?_
 refine zbin I 74 _ (fun _ _ _ _ _ => v0r sm) fun Al W I => ?_
 refine zb I 79 ((fm : Int) != (fm : Int)) (false) (bne_self_eq_false _) fun Al W I => ?_
 refine zq I (fun Al W I => (F1 W I.fa.1).out) fun Al W I => ?_
 refine zq I (fun Al W I => (F2 W I.fa.1).out) fun Al W I => ?_
 refine zb I 103 (er3 == er3) (true) (beq_self_eq_true _) fun Al W I => ?_
 refine zbin I 107 _ (fun _ _ _ _ _ => c1n sf) fun Al W I => ?_
 refine zb I 112 ((ff : Int) == (ff : Int)) (true) (beq_self_eq_true _) fun Al W I => ?_
 exact zrb I
end Go.Proofs.YtmacohmclpnphaaDoor
